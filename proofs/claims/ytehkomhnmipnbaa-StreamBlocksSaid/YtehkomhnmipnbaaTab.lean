/- The tables: closed facts on the types and functions of this translation. Conditions: none. -/
import Derived.Test.YtehkomhnmipnbaaFwJ
import Derived.Test.YtehkomhnmipnbaaProg
namespace Go.Proofs.Ytehkomhnmipnbaa
theorem ti1 : tinf Try.prog 1 = some (some Value.nilFunc, 1, 8) := by kernel_rfl
theorem ti2 : tinf Try.prog 2 = some (some (i64 0), 1, 8) := by kernel_rfl
theorem ti3 : tinf Try.prog 3 = some (some (i64 0), 1, 8) := by kernel_rfl
theorem ti4 : tinf Try.prog 4 = some (some (bl false), 1, 1) := by kernel_rfl
theorem ti5 : tinf Try.prog 5 = some (some (u8 0), 1, 1) := by kernel_rfl
theorem ti9 : tinf Try.prog 9 = some (some (Value.string ByteArray.empty), 1, 16) := by kernel_rfl
theorem ti12 : tinf Try.prog 12 = some (some (u64 0), 1, 8) := by kernel_rfl
theorem ti13 : tinf Try.prog 13 = some (some (Value.agg (#[(Value.string ByteArray.empty), (u64 0)])), 2, 24) := by kernel_rfl
theorem ti20 : tinf Try.prog 20 = some (some Value.nilIface, 1, 16) := by kernel_rfl
theorem ti21 : tinf Try.prog 21 = some (some (i32 0), 1, 4) := by kernel_rfl
theorem ti22 : tinf Try.prog 22 = some (some (u32 0), 1, 4) := by kernel_rfl
theorem ti23 : tinf Try.prog 23 = some (some (agg u32 (List.replicate 4 0)), 4, 16) := by kernel_rfl
theorem ti24 : tinf Try.prog 24 = some (some Value.nilFunc, 1, 8) := by kernel_rfl
theorem ti25 : tinf Try.prog 25 = some (some Value.nilFunc, 1, 8) := by kernel_rfl
theorem ti26 : tinf Try.prog 26 = some (some Value.nilFunc, 1, 8) := by kernel_rfl
theorem ti27 : tinf Try.prog 27 = some (some (agg u8 (List.replicate 32 0)), 32, 32) := by kernel_rfl
theorem ti28 : tinf Try.prog 28 = some (some (agg u8 (List.replicate 32 0)), 32, 32) := by kernel_rfl
theorem ti29 : tinf Try.prog 29 = some (some (agg u8 (List.replicate 12 0)), 12, 12) := by kernel_rfl
theorem ti30 : tinf Try.prog 30 = some (some (agg u8 (List.replicate 12 0)), 12, 12) := by kernel_rfl
theorem ti31 : tinf Try.prog 31 = some (some (agg u8 (List.replicate 64 0)), 64, 64) := by kernel_rfl
theorem ti32 : tinf Try.prog 32 = some (some Value.nilFunc, 1, 8) := by kernel_rfl
theorem ti33 : tinf Try.prog 33 = some (some Value.nilFunc, 1, 8) := by kernel_rfl
theorem ti34 : tinf Try.prog 34 = some (some (Value.slice none 0 0), 1, 24) := by kernel_rfl
theorem ti35 : tinf Try.prog 35 = some (some Value.nilFunc, 1, 8) := by kernel_rfl
theorem ti36 : tinf Try.prog 36 = some (some Value.nilFunc, 1, 8) := by kernel_rfl
theorem ti37 : tinf Try.prog 37 = some (some Value.nilFunc, 1, 8) := by kernel_rfl
theorem ti38 : tinf Try.prog 38 = some (some Value.nilFunc, 1, 8) := by kernel_rfl
theorem ti39 : tinf Try.prog 39 = some (some Value.nilFunc, 1, 8) := by kernel_rfl
theorem ti40 : tinf Try.prog 40 = some (some (agg i64 (List.replicate 4 0)), 4, 32) := by kernel_rfl
theorem ti41 : tinf Try.prog 41 = some (some Value.nilFunc, 1, 8) := by kernel_rfl
theorem ti42 : tinf Try.prog 42 = some (some (agg u32 (List.replicate 16 0)), 16, 64) := by kernel_rfl
theorem ti43 : tinf Try.prog 43 = some (some (agg u32 (List.replicate 16 0)), 16, 64) := by kernel_rfl
theorem ti44 : tinf Try.prog 44 = some (some Value.nilFunc, 1, 8) := by kernel_rfl
theorem ti45 : tinf Try.prog 45 = some (some Value.nilFunc, 1, 8) := by kernel_rfl
theorem ti46 : tinf Try.prog 46 = some (some (Value.slice none 0 0), 1, 24) := by kernel_rfl
theorem ti47 : tinf Try.prog 47 = some (some Value.nilFunc, 1, 8) := by kernel_rfl
theorem ti48 : tinf Try.prog 48 = some (some (Value.slice none 0 0), 1, 24) := by kernel_rfl
theorem ti49 : tinf Try.prog 49 = some (some Value.nilFunc, 1, 8) := by kernel_rfl
theorem ti50 : tinf Try.prog 50 = some (some (Value.slice none 0 0), 1, 24) := by kernel_rfl
theorem ti51 : tinf Try.prog 51 = some (some (u64 0), 1, 8) := by kernel_rfl
theorem ti52 : tinf Try.prog 52 = some (some (Value.pointer none), 1, 8) := by kernel_rfl
theorem ti53 : tinf Try.prog 53 = some (some Value.nilFunc, 1, 8) := by kernel_rfl
theorem ti59 : tinf Try.prog 59 = some (some Value.nilFunc, 1, 8) := by kernel_rfl
theorem ti63 : tinf Try.prog 63 = some (some (Value.pointer none), 1, 8) := by kernel_rfl
theorem nm2 : (Try.f2.name == "runtime.NumGoroutine") = false := by kernel_rfl
theorem bd2 : Try.f2.body.isNone = false := by kernel_rfl
theorem nm3 : (Try.f3.name == "runtime.NumGoroutine") = false := by kernel_rfl
theorem bd3 : Try.f3.body.isNone = false := by kernel_rfl
theorem nm4 : (Try.f4.name == "runtime.NumGoroutine") = false := by kernel_rfl
theorem bd4 : Try.f4.body.isNone = false := by kernel_rfl
theorem nm5 : (Try.f5.name == "runtime.NumGoroutine") = false := by kernel_rfl
theorem bd5 : Try.f5.body.isNone = false := by kernel_rfl
theorem nm6 : (Try.f6.name == "runtime.NumGoroutine") = false := by kernel_rfl
theorem bd6 : Try.f6.body.isNone = false := by kernel_rfl
theorem nm7 : (Try.f7.name == "runtime.NumGoroutine") = false := by kernel_rfl
theorem bd7 : Try.f7.body.isNone = false := by kernel_rfl
theorem nm8 : (Try.f8.name == "runtime.NumGoroutine") = false := by kernel_rfl
theorem bd8 : Try.f8.body.isNone = false := by kernel_rfl
theorem nm9 : (Try.f9.name == "runtime.NumGoroutine") = false := by kernel_rfl
theorem bd9 : Try.f9.body.isNone = false := by kernel_rfl
theorem nm10 : (Try.f10.name == "runtime.NumGoroutine") = false := by kernel_rfl
theorem bd10 : Try.f10.body.isNone = false := by kernel_rfl
theorem nm11 : (Try.f11.name == "runtime.NumGoroutine") = false := by kernel_rfl
theorem bd11 : Try.f11.body.isNone = false := by kernel_rfl
theorem nm12 : (Try.f12.name == "runtime.NumGoroutine") = false := by kernel_rfl
theorem bd12 : Try.f12.body.isNone = false := by kernel_rfl
theorem nm13 : (Try.f13.name == "runtime.NumGoroutine") = false := by kernel_rfl
theorem bd13 : Try.f13.body.isNone = false := by kernel_rfl
theorem nm14 : (Try.f14.name == "runtime.NumGoroutine") = false := by kernel_rfl
theorem bd14 : Try.f14.body.isNone = false := by kernel_rfl
theorem nm15 : (Try.f15.name == "runtime.NumGoroutine") = false := by kernel_rfl
theorem bd15 : Try.f15.body.isNone = false := by kernel_rfl
theorem nm16 : (Try.f16.name == "runtime.NumGoroutine") = false := by kernel_rfl
theorem bd16 : Try.f16.body.isNone = false := by kernel_rfl
theorem nm17 : (Try.f17.name == "runtime.NumGoroutine") = false := by kernel_rfl
theorem bd17 : Try.f17.body.isNone = false := by kernel_rfl
theorem nm18 : (Try.f18.name == "runtime.NumGoroutine") = false := by kernel_rfl
theorem bd18 : Try.f18.body.isNone = false := by kernel_rfl
theorem nm19 : (Try.f19.name == "runtime.NumGoroutine") = false := by kernel_rfl
theorem bd19 : Try.f19.body.isNone = false := by kernel_rfl
theorem nm20 : (Try.f20.name == "runtime.NumGoroutine") = false := by kernel_rfl
theorem bd20 : Try.f20.body.isNone = false := by kernel_rfl
theorem nm21 : (Try.f21.name == "runtime.NumGoroutine") = false := by kernel_rfl
theorem bd21 : Try.f21.body.isNone = false := by kernel_rfl
end Go.Proofs.Ytehkomhnmipnbaa
