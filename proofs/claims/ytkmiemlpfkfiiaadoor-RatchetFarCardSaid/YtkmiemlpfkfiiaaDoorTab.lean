/- The tables: closed facts on the types and functions of this translation. Conditions: none. -/
import Derived.Test.YtkmiemlpfkfiiaaDoorFwQ
import Derived.Test.YtkmiemlpfkfiiaaDoorFwM
import Derived.Test.YtkmiemlpfkfiiaaDoorProg
namespace Go.Proofs.YtkmiemlpfkfiiaaDoor
open Tryd
theorem Dj : X4 prog 3 = some (some (i64 0), 1, 8) := by kernel_rfl
theorem ti4 : X4 prog 4 = some (some (bl false), 1, 1) := by kernel_rfl
theorem Yw : X4 prog 5 = some (some (u8 0), 1, 1) := by kernel_rfl
theorem Zi : X4 prog 23 = some (some (agg u8 (List.replicate 32 0)), 32, 32) := by kernel_rfl
theorem Ah : X4 prog 24 = some (some Jp, 1, 24) := by kernel_rfl
theorem Jo : X4 prog 26 = some (some (Value.agg (Qp (sE (List.replicate 32 0) (List.replicate 32 0) (List.replicate 32 0) false false (List.replicate 32 0) (List.replicate 32 0) 0 0 0 Jp))), 166, 216) := by kernel_rfl
theorem Mc : X4 prog 27 = some (some Jp, 1, 24) := by kernel_rfl
theorem Qec : X4 prog 39 = some (some (Value.agg #[(u8 0), (u8 0), (u8 0), (u8 0), (u8 0), (u8 0), (u8 0), (u8 0), (u8 0), (u8 0), (u8 0), (u8 0), (u8 0), (u8 0), (u8 0), (u8 0), (u8 0), (u8 0), (u8 0), (u8 0), (u8 0), (u8 0), (u8 0), (u8 0), (u8 0), (u8 0), (u8 0), (u8 0), (u8 0), (u8 0), (u8 0), (u8 0), (u8 0), (u8 0), (u8 0), (u8 0), (u8 0), (u8 0), (u8 0), (u8 0), (u8 0), (u8 0), (u8 0), (u8 0), (u8 0), (u8 0), (u8 0), (u8 0), (u8 0), (u8 0), (u8 0), (u8 0), (u8 0), (u8 0), (u8 0), (u8 0), (u8 0), (u8 0), (u8 0), (u8 0), (u8 0), (u8 0), (u8 0), (u8 0)]), 64, 64) := by kernel_rfl
theorem Qa6 : X4 prog 53 = some (some (Value.agg (Qp (sH (List.replicate 32 0) 0 0))), 34, 48) := by kernel_rfl
theorem Np : X4 prog 69 = some (some (Value.agg #[(u8 0), (u8 0), (u8 0), (u8 0), (u8 0), (u8 0), (u8 0), (u8 0), (u8 0), (u8 0), (u8 0), (u8 0), (u8 0), (u8 0), (u8 0), (u8 0), (u8 0), (u8 0), (u8 0), (u8 0), (u8 0), (u8 0), (u8 0), (u8 0), (u8 0), (u8 0), (u8 0), (u8 0), (u8 0), (u8 0), (u8 0), (u8 0), (i64 0), (u8 0), (u8 0), (u8 0), (u8 0), (u8 0), (u8 0), (u8 0), (u8 0), (u8 0), (u8 0), (u8 0), (u8 0), (u8 0), (u8 0), (u8 0), (u8 0), (u8 0), (u8 0), (u8 0), (u8 0), (u8 0), (u8 0), (u8 0), (u8 0), (u8 0), (u8 0), (u8 0), (u8 0), (u8 0), (u8 0), (u8 0), (u8 0)]), 65, 72) := by kernel_rfl
theorem Qb4 : X4 prog 77 = some (some (agg u8 (List.replicate 12 0)), 12, 12) := by kernel_rfl
theorem Zn : X4 prog 106 = some (some (u32 0), 1, 4) := by kernel_rfl
theorem Zl : X4 prog 124 = some (some (u64 0), 1, 8) := by kernel_rfl
theorem Z5 : X4 prog 126 = some (some (agg u64 (List.replicate 5 0)), 5, 40) := by kernel_rfl
theorem Ur : X4 prog 129 = some (some (Value.agg #[(u64 0), (u64 0), (u64 0), (u64 0), (u64 0), (u64 0), (u64 0), (u64 0), (u64 0), (u64 0)]), 10, 80) := by kernel_rfl
theorem Qgx : X4 prog 139 = some (some (agg u8 (List.replicate 64 0)), 64, 64) := by kernel_rfl
theorem Qji : X4 prog 146 = some (some (Value.agg #[(u64 0), (u64 0)]), 2, 16) := by kernel_rfl
theorem ti147 : X4 prog 147 = some (some (agg u64 (List.replicate 10 0)), 10, 80) := by kernel_rfl
theorem V3 : X4 prog 152 = some (some (agg u32 (List.replicate 8 0)), 8, 32) := by kernel_rfl
theorem Qe8 : X4 prog 154 = some (some (Value.agg #[(u32 0), (u32 0), (u32 0), (u32 0), (u32 0), (u32 0), (u32 0), (u32 0), Jp, (u64 0)]), 10, 64) := by kernel_rfl
theorem Qb5 : X4 prog 156 = some (some (agg u32 (List.replicate 16 0)), 16, 64) := by kernel_rfl
theorem Qbd : X4 prog 159 = some (some (agg i64 (List.replicate 4 0)), 4, 32) := by kernel_rfl
theorem ti160 : X4 prog 160 = some (some (agg u32 (List.replicate 64 0)), 64, 256) := by kernel_rfl
theorem Qgw : X4 prog 167 = some (some (agg u32 (List.replicate 4 0)), 4, 16) := by kernel_rfl
theorem rN {P : Program} {n : Nat} {ops : Array Oper} {N : (Nat → Value) → World → Prop} {Q : Exit → (Nat → Value) → World → Prop} {fr : Nat → Value} {w : World} (h : N fr w) : RW P n ops [] (fun fr w => Si N Q .normal fr w) fr w := Zo (Qa h)
theorem sR {P : Program} {n id : Nat} {l : List Oper} {y : Code} {Q : Exit → (Nat → Value) → World → Prop} {fr : Nat → Value} {w : World} (h : RW P n l.toArray l (fun fr w => Si (CW P n y Q) Q .normal fr w) fr w) : CW P n (.seq (.region id l.toArray false) y) Q fr w := Qc (Qb h)
theorem oM {p : Prop} (h : p := by omega) : p := h
theorem sD {p : Prop} (h : p := by first | (simp only [List.length_cons, List.length_nil]; done) | omega | (simp; done) | (simp; omega) | decide) : p := h
theorem sL {p : Prop} (h : p := by first | omega | (simp only [List.length_set, List.length_append, List.length_replicate, List.length_map, List.length_cons, List.length_nil]; omega) | (simp; done) | (simp; omega) | decide) : p := h
theorem sZ {p : Prop} (h : p := by rw [Qb6]; first | (simp only [List.length_cons, List.length_nil]; done) | omega | (simp; done) | (simp; omega) | decide) : p := h
set_option linter.defProp false in def Di := underlying3
set_option linter.defProp false in def uT4 := underlying4
set_option linter.defProp false in def Uu := underlying5
set_option linter.defProp false in def uT9 := underlying9
set_option linter.defProp false in def Xf := underlying23
set_option linter.defProp false in def Gt := underlying24
set_option linter.defProp false in def X6 := underlying26
set_option linter.defProp false in def Zx := underlying27
set_option linter.defProp false in def Qe5 := underlying39
set_option linter.defProp false in def La := underlying53
set_option linter.defProp false in def Qeb := underlying65
set_option linter.defProp false in def Qe4 := underlying69
set_option linter.defProp false in def Sl := underlying77
set_option linter.defProp false in def uT82 := underlying82
set_option linter.defProp false in def Yi := underlying106
set_option linter.defProp false in def uT121 := underlying121
set_option linter.defProp false in def Xg := underlying124
set_option linter.defProp false in def Zk := underlying126
set_option linter.defProp false in def F8 := underlying129
set_option linter.defProp false in def uT139 := underlying139
set_option linter.defProp false in def Qe6 := underlying146
set_option linter.defProp false in def uT147 := underlying147
set_option linter.defProp false in def W9 := underlying152
set_option linter.defProp false in def Jf := underlying154
set_option linter.defProp false in def Ue := underlying156
set_option linter.defProp false in def Fq := underlying159
set_option linter.defProp false in def F7 := underlying160
set_option linter.defProp false in def uT163 := underlying163
set_option linter.defProp false in def Vh := underlying167
abbrev OC (f : Nat) : Prop := ∀ {fr : Nat → Value} {w : World} {xs : Array Operand} {vs : Array Value} {ts : Array TypeId} {ty : TypeId} {Φ : Value → World → Prop}, xs.map (Qg fr) = vs → Xm prog f vs w Φ → J8 prog fr w (.call ⟨.value (.func f), xs, ts⟩) ty Φ
theorem oc9 : OC 9 := fun h k => Z8 func9 Xh Xh h k
theorem oc12 : OC 12 := fun h k => Z8 func12 Xh Xh h k
theorem oc14 : OC 14 := fun h k => Z8 func14 Xh Xh h k
theorem oc16 : OC 16 := fun h k => Z8 func16 Xh Xh h k
theorem oc18 : OC 18 := fun h k => Z8 func18 Xh Xh h k
theorem oc23 : OC 23 := fun h k => Z8 func23 Xh Xh h k
theorem oc25 : OC 25 := fun h k => Z8 func25 Xh Xh h k
theorem oc27 : OC 27 := fun h k => Z8 func27 Xh Xh h k
theorem oc29 : OC 29 := fun h k => Z8 func29 Xh Xh h k
theorem oc30 : OC 30 := fun h k => Z8 func30 Xh Xh h k
theorem oc31 : OC 31 := fun h k => Z8 func31 Xh Xh h k
theorem oc32 : OC 32 := fun h k => Z8 func32 Xh Xh h k
theorem oc33 : OC 33 := fun h k => Z8 func33 Xh Xh h k
theorem oc34 : OC 34 := fun h k => Z8 func34 Xh Xh h k
theorem oc40 : OC 40 := fun h k => Z8 func40 Xh Xh h k
theorem oc41 : OC 41 := fun h k => Z8 func41 Xh Xh h k
theorem oc44 : OC 44 := fun h k => Z8 func44 Xh Xh h k
theorem oc46 : OC 46 := fun h k => Z8 func46 Xh Xh h k
theorem oc50 : OC 50 := fun h k => Z8 func50 Xh Xh h k
theorem nm51 : (f51.name == "runtime.NumGoroutine") = false := by kernel_rfl
theorem bd51 : f51.body.isNone = false := by kernel_rfl
theorem oc52 : OC 52 := fun h k => Z8 func52 Xh Xh h k
theorem oc53 : OC 53 := fun h k => Z8 func53 Xh Xh h k
theorem oc54 : OC 54 := fun h k => Z8 func54 Xh Xh h k
theorem oc57 : OC 57 := fun h k => Z8 func57 Xh Xh h k
theorem nm58 : (f58.name == "runtime.NumGoroutine") = false := by kernel_rfl
theorem bd58 : f58.body.isNone = false := by kernel_rfl
theorem oc59 : OC 59 := fun h k => Z8 func59 Xh Xh h k
theorem oc60 : OC 60 := fun h k => Z8 func60 Xh Xh h k
theorem oc61 : OC 61 := fun h k => Z8 func61 Xh Xh h k
theorem oc62 : OC 62 := fun h k => Z8 func62 Xh Xh h k
theorem oc73 : OC 73 := fun h k => Z8 func73 Xh Xh h k
theorem oc75 : OC 75 := fun h k => Z8 func75 Xh Xh h k
theorem oc76 : OC 76 := fun h k => Z8 func76 Xh Xh h k
theorem oc77 : OC 77 := fun h k => Z8 func77 Xh Xh h k
theorem oc78 : OC 78 := fun h k => Z8 func78 Xh Xh h k
theorem oc79 : OC 79 := fun h k => Z8 func79 Xh Xh h k
theorem oc80 : OC 80 := fun h k => Z8 func80 Xh Xh h k
theorem Qdh : OC 81 := fun h k => Z8 func81 Xh Xh h k
theorem oc82 : OC 82 := fun h k => Z8 func82 Xh Xh h k
theorem oc83 : OC 83 := fun h k => Z8 func83 Xh Xh h k
theorem oc84 : OC 84 := fun h k => Z8 func84 Xh Xh h k
theorem oc85 : OC 85 := fun h k => Z8 func85 Xh Xh h k
theorem oc86 : OC 86 := fun h k => Z8 func86 Xh Xh h k
theorem oc87 : OC 87 := fun h k => Z8 func87 Xh Xh h k
theorem oc88 : OC 88 := fun h k => Z8 func88 Xh Xh h k
theorem oc89 : OC 89 := fun h k => Z8 func89 Xh Xh h k
theorem oc95 : OC 95 := fun h k => Z8 func95 Xh Xh h k
theorem oc96 : OC 96 := fun h k => Z8 func96 Xh Xh h k
theorem oc97 : OC 97 := fun h k => Z8 func97 Xh Xh h k
theorem oc98 : OC 98 := fun h k => Z8 func98 Xh Xh h k
theorem oc99 : OC 99 := fun h k => Z8 func99 Xh Xh h k
theorem oc101 : OC 101 := fun h k => Z8 func101 Xh Xh h k
theorem oc102 : OC 102 := fun h k => Z8 func102 Xh Xh h k
theorem oc103 : OC 103 := fun h k => Z8 func103 Xh Xh h k
theorem Qdy : OC 104 := fun h k => Z8 func104 Xh Xh h k
theorem oc110 : OC 110 := fun h k => Z8 func110 Xh Xh h k
theorem oc111 : OC 111 := fun h k => Z8 func111 Xh Xh h k
theorem Nb : OC 112 := fun h k => Z8 func112 Xh Xh h k
theorem Tq : OC 113 := fun h k => Z8 func113 Xh Xh h k
theorem oc114 : OC 114 := fun h k => Z8 func114 Xh Xh h k
section
variable {P : Program} {n : Nat} {ops : Array Oper} {rest : List Oper} {K : (Nat → Value) → World → Prop} {fr : Nat → Value} {w : World} {ty : TypeId} {pos : String} {aft : Array Edge} {d : Nat}
theorem Qd {op : Op} {v : Value} (h : Yt P fr w op ty v) (k : RW P n ops rest K (upd fr d v) w) (hd : Nat.blt d n = true := by rfl) : RW P n ops (⟨some d, op, ty, pos, aft, none⟩ :: rest) K fr w := rw_q hd h k
theorem G5 {op : Op} {Φ : Value → World → Prop} (h : J8 P fr w op ty Φ) (k : ∀ v w', Φ v w' → RW P n ops rest K (upd fr d v) w') (hd : Nat.blt d n = true := by rfl) : RW P n ops (⟨some d, op, ty, pos, aft, none⟩ :: rest) K fr w := rw_c hd h k
theorem Zb {x : Operand} (v : Value) (k : RW P n ops rest K (upd fr d v) w) (h : Qg fr x = v := by rfl) (hd : Nat.blt d n = true := by rfl) : RW P n ops (⟨some d, .move x, ty, pos, aft, none⟩ :: rest) K fr w := rw_q hd (Ye h) k
theorem Yk {x : Operand} {v : Value} (h : Qg fr x = v) (k : RW P n ops rest K (upd fr d v) w) (hd : Nat.blt d n = true := by rfl) : RW P n ops (⟨some d, .move x, ty, pos, aft, none⟩ :: rest) K fr w := rw_q hd (Ye h) k
theorem Zv {x : Operand} (v : Value) (k : RW P n ops rest K (upd fr d v) w) (h : Qg fr x = v := by rfl) (hd : Nat.blt d n = true := by rfl) : RW P n ops (⟨some d, .assign x, ty, pos, aft, none⟩ :: rest) K fr w := rw_q hd (Gi h) k
theorem Sv {x : Operand} {v : Value} (h : Qg fr x = v) (k : RW P n ops rest K (upd fr d v) w) (hd : Nat.blt d n = true := by rfl) : RW P n ops (⟨some d, .assign x, ty, pos, aft, none⟩ :: rest) K fr w := rw_q hd (Gi h) k
theorem Y5 {R : Rest} {op : Op} {v : Nat → Value} {H : Nat → List (Nat × Obj)} (h : J8 P fr w op ty (fun v' w' => ∃ b, v' = v b ∧ Ext w w' ∧ Mem w' R (H b))) (k : ∀ w' b, Mem w' R (H b) → RW P n ops rest K (upd fr d (v b)) w') (hd : Nat.blt d n = true := by rfl) : RW P n ops (⟨some d, op, ty, pos, aft, none⟩ :: rest) K fr w := rw_c hd h (by rintro _ w' ⟨b, rfl, _, m⟩; exact k w' b m)
theorem Dx {R : Rest} {op : Op} {v : Value} {H : List (Nat × Obj)} (m : Mem w R H) (h : J8 P fr w op ty (fun v' w' => v' = v ∧ Ext w w')) (k : ∀ w', Mem w' R H → RW P n ops rest K (upd fr d v) w') (hd : Nat.blt d n = true := by rfl) : RW P n ops (⟨some d, op, ty, pos, aft, none⟩ :: rest) K fr w := rw_c hd h (by rintro _ w' ⟨rfl, e⟩; exact k w' (m.ext e))
end
section
variable {P : Program} {n : Nat} {l : List Oper} {i : Nat} {r : List (Nat × Bool)} {tail : List Oper} {N : (Nat → Value) → World → Prop} {fr : Nat → Value} {w : World} {ty : TypeId} {pos : String} {aft : Array Edge} {d : Nat}
theorem Xq {op : Op} {v : Value} (ho : l[i]? = some ⟨some d, op, ty, pos, aft, none⟩) (h : ∀ {w : World}, Yt P fr w op ty v) (k : DW P n l tail N (Ext w) r (upd fr d v) w) (hd : Nat.blt d n = true := by rfl) : DW P n l tail N (Ext w) ((i, false) :: r) fr w := dw_q ho hd (fun _ _ => h) k
theorem Y6 {op : Op} {v : Value} (ho : l[i]? = some ⟨some d, op, ty, pos, aft, none⟩) (h : ∀ w', Ext w w' → Yt P fr w' op ty v) (k : DW P n l tail N (Ext w) r (upd fr d v) w) (hd : Nat.blt d n = true := by rfl) : DW P n l tail N (Ext w) ((i, false) :: r) fr w := dw_q ho hd h k
theorem Jj {x : Operand} (ho : l[i]? = some ⟨some d, .move x, ty, pos, aft, none⟩) (v : Value) (k : DW P n l tail N (Ext w) r (upd fr d v) w) (h : Qg fr x = v := by rfl) (hd : Nat.blt d n = true := by rfl) : DW P n l tail N (Ext w) ((i, false) :: r) fr w := dw_q ho hd (fun _ _ => Ye h) k
theorem yqE {x : Operand} {v : Value} (ho : l[i]? = some ⟨some d, .move x, ty, pos, aft, none⟩) (h : Qg fr x = v) (k : DW P n l tail N (Ext w) r (upd fr d v) w) (hd : Nat.blt d n = true := by rfl) : DW P n l tail N (Ext w) ((i, false) :: r) fr w := dw_q ho hd (fun _ _ => Ye h) k
theorem L9 {R : Rest} {op : Op} {v : Value} (ho : l[i]? = some ⟨some d, op, ty, pos, aft, none⟩) (h : ∀ {w : World}, Yt P fr w op ty v) (k : DW P n l tail N (KR R) r (upd fr d v) w) (hd : Nat.blt d n = true := by rfl) : DW P n l tail N (KR R) ((i, false) :: r) fr w := dk_q ho hd (fun _ _ _ => h) k
theorem yqH {R : Rest} {op : Op} {v : Value} (ho : l[i]? = some ⟨some d, op, ty, pos, aft, none⟩) (h : ∀ w' H, Mem w' R H → Yt P fr w' op ty v) (k : DW P n l tail N (KR R) r (upd fr d v) w) (hd : Nat.blt d n = true := by rfl) : DW P n l tail N (KR R) ((i, false) :: r) fr w := dk_q ho hd h k
end
theorem Xd {P : Program} {fr : Nat → Value} {w : World} {ty : TypeId} {x y : Operand} {t t' : TypeId} (a b : Int) (hx : Qg fr x = i64 a := by rfl) (hy : Qg fr y = i64 b := by rfl) (h0 : -9223372036854775808 ≤ a + b := by omega) (h1 : a + b < 9223372036854775808 := by omega) : Yt P fr w (.binOp .add t x y t') ty (i64 (a + b)) := Z9 hx hy h0 h1
theorem A8 {P : Program} {fr : Nat → Value} {w : World} {ty : TypeId} {x y : Operand} {t t' : TypeId} (a b : Int) (hx : Qg fr x = i64 a := by rfl) (hy : Qg fr y = i64 b := by rfl) (h0 : -9223372036854775808 ≤ a - b := by omega) (h1 : a - b < 9223372036854775808 := by omega) : Yt P fr w (.binOp .sub t x y t') ty (i64 (a - b)) := Kw hx hy h0 h1
theorem Vy {P : Program} {fr : Nat → Value} {w : World} {ty : TypeId} {x y : Operand} {t t' : TypeId} (a b : Int) (hx : Qg fr x = i64 a := by rfl) (hy : Qg fr y = i64 b := by rfl) (h0 : -9223372036854775808 ≤ a * b := by omega) (h1 : a * b < 9223372036854775808 := by omega) : Yt P fr w (.binOp .mul t x y t') ty (i64 (a * b)) := Cj hx hy h0 h1
theorem X5 {P : Program} {fr : Nat → Value} {w : World} {ty : TypeId} {x y : Operand} {t t' : TypeId} (a b : Int) (hx : Qg fr x = i64 a := by rfl) (hy : Qg fr y = i64 b := by rfl) : Yt P fr w (.binOp .lss t x y t') ty (bl (decide (a < b))) := Xy hx hy
theorem D6 {P : Program} {fr : Nat → Value} {w : World} {ty : TypeId} {x y : Operand} {t t' : TypeId} (a b : Int) (hx : Qg fr x = i64 a := by rfl) (hy : Qg fr y = i64 b := by rfl) : Yt P fr w (.binOp .geq t x y t') ty (bl (decide (b ≤ a))) := Eu hx hy
theorem x_eql {P : Program} {fr : Nat → Value} {w : World} {ty : TypeId} {x y : Operand} {t t' : TypeId} (a b : Int) (hx : Qg fr x = i64 a := by rfl) (hy : Qg fr y = i64 b := by rfl) : Yt P fr w (.binOp .eql t x y t') ty (bl (a == b)) := J5 hx hy
theorem x_neq {P : Program} {fr : Nat → Value} {w : World} {ty : TypeId} {x y : Operand} {t t' : TypeId} (a b : Int) (hx : Qg fr x = i64 a := by rfl) (hy : Qg fr y = i64 b := by rfl) : Yt P fr w (.binOp .neq t x y t') ty (bl (a != b)) := Je hx hy
theorem Xe {P : Program} {fr : Nat → Value} {w : World} {ty : TypeId} {x y : Operand} {b off len n kb : Nat} {E T : TypeId} {z : Option Value} {k : IntKind} (r : Nat) (i : Int) (hu : P.underlying T = some (.array len E)) (hi : X4 P E = some (z, n, kb)) (hx : Qg fr x = ptr b off) (hy : Qg fr y = .int k i := by rfl) (hr : off + i.toNat * n = r := by omega) (h0 : 0 ≤ i := by omega) (h1 : i < len := by omega) : Yt P fr w (.indexAddr T x y) ty (ptr b r) := Xc hr hu hi hx hy h0 h1
theorem N8 {p : Prop} (h : p := by rw [Qb6]; first | omega | (simp only [List.length_set, List.length_append, List.length_replicate, List.length_map, List.length_cons, List.length_nil]; omega) | (simp; done) | (simp; omega) | decide) : p := h
theorem ysF {p : Prop} (h : p := by first | rfl | first | omega | (simp only [List.length_set, List.length_append, List.length_replicate, List.length_map, List.length_cons, List.length_nil]; omega) | (simp; done) | (simp; omega) | decide) : p := h
theorem ymA {w : World} {R : Rest} {H H' : List (Nat × Obj)} (h : Mem w R H) (e : H = H' := by first | with_reducible rfl | simp only [List.append_assoc, List.cons_append, List.nil_append, List.append_nil]) : Mem w R H' := e ▸ h
theorem Yb {P : Program} {n : Nat} {ops : Array Oper} {rest : List Oper} {K : (Nat → Value) → World → Prop} {fr : Nat → Value} {w : World} {ty : TypeId} {pos : String} {aft : Array Edge} {R : Rest} {H : List (Nat × Obj)} {b : Nat} {o o' : Obj}  {op : Op} (m : Mem w R ((b, o) :: H)) (h : J8 P fr w op ty (fun _ w' => Upd w b o' w')) (k : ∀ w', Mem w' R ((b, o') :: H) → RW P n ops rest K fr w') : RW P n ops (⟨none, op, ty, pos, aft, none⟩ :: rest) K fr w := Ve h fun _ w' u => k w' (m.upd0 u)
theorem Vq {P : Program} {n : Nat} {ops : Array Oper} {rest : List Oper} {K : (Nat → Value) → World → Prop} {fr : Nat → Value} {w : World} {ty : TypeId} {pos : String} {aft : Array Edge} {R : Rest} {H : List (Nat × Obj)} {b : Nat} {o o' : Obj} {p : Nat × Obj} {op : Op} (m : Mem w R (p :: (b, o) :: H)) (h : J8 P fr w op ty (fun _ w' => Upd w b o' w')) (k : ∀ w', Mem w' R (p :: (b, o') :: H) → RW P n ops rest K fr w') : RW P n ops (⟨none, op, ty, pos, aft, none⟩ :: rest) K fr w := Ve h fun _ w' u => k w' (m.upd1 u)
theorem Qc3 {P : Program} {n : Nat} {ops : Array Oper} {rest : List Oper} {K : (Nat → Value) → World → Prop} {fr : Nat → Value} {w : World} {ty : TypeId} {pos : String} {aft : Array Edge} {R : Rest} {H : List (Nat × Obj)} {b : Nat} {o o' : Obj} {p q : Nat × Obj} {op : Op} (m : Mem w R (p :: q :: (b, o) :: H)) (h : J8 P fr w op ty (fun _ w' => Upd w b o' w')) (k : ∀ w', Mem w' R (p :: q :: (b, o') :: H) → RW P n ops rest K fr w') : RW P n ops (⟨none, op, ty, pos, aft, none⟩ :: rest) K fr w := Ve h fun _ w' u => k w' (m.upd2 u)
theorem yqU3 {P : Program} {n : Nat} {ops : Array Oper} {rest : List Oper} {K : (Nat → Value) → World → Prop} {fr : Nat → Value} {w : World} {ty : TypeId} {pos : String} {aft : Array Edge} {R : Rest} {H : List (Nat × Obj)} {b : Nat} {o o' : Obj} {p q r : Nat × Obj} {op : Op} (m : Mem w R (p :: q :: r :: (b, o) :: H)) (h : J8 P fr w op ty (fun _ w' => Upd w b o' w')) (k : ∀ w', Mem w' R (p :: q :: r :: (b, o') :: H) → RW P n ops rest K fr w') : RW P n ops (⟨none, op, ty, pos, aft, none⟩ :: rest) K fr w := Ve h fun _ w' u => k w' (m.upd3 u)
theorem Ug {P : Program} {n : Nat} {l tail : List Oper} {N : (Nat → Value) → World → Prop} {fr : Nat → Value} {w : World} {R : Rest} {H : List (Nat × Obj)} {KK : World → Prop} (m : Mem w R H) (h : ∀ w', Mem w' R H → RW P n l.toArray tail N fr w') : DW P n l tail N KK [] fr w := fun w' e => h w' (m.ext e)
end Go.Proofs.YtkmiemlpfkfiiaaDoor
