/- Contracts: stream, third part. Conditions: none beyond those that each theorem states. -/
import Derived.Test.YtkmiemlpfkfiiaaDoorSt2
namespace Go.Proofs.YtkmiemlpfkfiiaaDoor
open Tryd
section
set_option linter.unusedVariables false
set_option linter.unusedSimpArgs false
theorem same_len {la lb : Zj} (h : (la.length : Int) ≠ (lb.length : Int)) : false = (la == lb) := by
 symm; rw [beq_eq_false_iff_ne]; rintro rfl; exact h rfl
def Qan (word : Zj → BitVec 32) (key : Zj) (cr : BitVec 32) (nz : Zj) : List (BitVec 32) :=
  [1634760805#32, 857760878#32, 2036477234#32, 1797285236#32, word (Gm key 0 4), word (Gm key 4 4), word (Gm key 8 4), word (Gm key 12 4),
   word (Gm key 16 4), word (Gm key 20 4), word (Gm key 24 4), word (Gm key 28 4), cr, word (Gm nz 0 4), word (Gm nz 4 4), word (Gm nz 8 4)]
@[simp] theorem Qgs (word : Zj → BitVec 32) (key : Zj) (cr : BitVec 32) (nz : Zj) : (Qan word key cr nz).length = 16 := rfl
abbrev IL := (Option Addr × Nat × Nat) × List Int
def ilv (t : IL) : Value := .slice t.1.1 t.1.2.1 t.1.2.2
def encIL (t : IL) : List Value := [ilv t]
def Qk5 : List (List Int) := [[0, 4, 8, 12], [1, 5, 9, 13], [2, 6, 10, 14], [3, 7, 11, 15], [0, 5, 10, 15], [1, 6, 11, 12], [2, 7, 8, 13], [3, 4, 9, 14]]
def OrdR (m : Nat → Option Obj) (v : Value) (ol : List IL) : Prop := RdK m encIL 1 v ol ∧ (∀ a ∈ ol, Rd m i64 (ilv a) a.2) ∧ ol.map (·.2) = Qk5
def oN (i j : Nat) : Nat := ((Qk5.getD i []).getD j 0).toNat
def Qfh (Q : BitVec 32 → BitVec 32 → BitVec 32 → BitVec 32 → List (BitVec 32)) (s : List (BitVec 32)) (i0 i1 i2 i3 : Nat) : List (BitVec 32) :=
 let q := Q (s.getD i0 0) (s.getD i1 0) (s.getD i2 0) (s.getD i3 0)
 (((s.set i0 (q.getD 0 0)).set i1 (q.getD 1 0)).set i2 (q.getD 2 0)).set i3 (q.getD 3 0)
def qK (s : List (BitVec 32)) : Nat → List (BitVec 32)
 | 0 => s
 | i + 1 => Qfh (Y3 Lm) (qK s i) (oN i 0) (oN i 1) (oN i 2) (oN i 3)
def dblR (s : List (BitVec 32)) : List (BitVec 32) := qK s 8
theorem OrdR.mono {m m' : Nat → Option Obj} {v : Value} {ol : List IL} (h : OrdR m v ol) (hm : ∀ b o, m b = some o → m' b = some o) : OrdR m' v ol := ⟨h.1.mono hm, fun a ha => (h.2.1 a ha).mono hm, h.2.2⟩
def Ey (v s : List (BitVec 32)) (i : Nat) : Zj :=
 [(v.getD i 0 + s.getD i 0).setWidth 8, ((v.getD i 0 + s.getD i 0) >>> 8).setWidth 8, ((v.getD i 0 + s.getD i 0) >>> 16).setWidth 8, ((v.getD i 0 + s.getD i 0) >>> 24).setWidth 8]
theorem D8 (v s : List (BitVec 32)) (k : Nat) : ((List.range k).flatMap (Ey v s)).length = 4 * k := by
 induction k with
 | zero => rfl
 | succ k ih => rw [List.range_succ, List.flatMap_append, List.length_append, ih]; simp [Ey]; omega
theorem Qe3 (v s : List (BitVec 32)) (k : Nat) : (List.range (k + 1)).flatMap (Ey v s) = (List.range k).flatMap (Ey v s) ++ Ey v s k := by
 rw [List.range_succ, List.flatMap_append]; simp
def Ru (key : Zj) (cr : BitVec 32) (nz : Zj) : Zj :=
 (List.range 16).flatMap (Ey (Jr dblR 10 (Qan Nl key cr nz)) (Qan Nl key cr nz))
@[simp] theorem blockR_length (key : Zj) (cr : BitVec 32) (nz : Zj) : (Ru key cr nz).length = 64 := by
 unfold Ru; rw [D8]
end --m
section
set_option linter.unusedVariables false
set_option linter.unusedSimpArgs false
attribute [local irreducible] Qan qK Jr dblR Nl oN Qk5
end --m
section
set_option linter.unusedVariables false
set_option linter.unusedSimpArgs false
def Aa (block : Zj → BitVec 32 → Zj → Zj) (key : Zj) (cr : BitVec 32) (nz l : Zj) (i : Nat) : BitVec 8 :=
 l.getD i 0 ^^^ (block key (cr + BitVec.ofNat 32 (i / 64)) nz).getD (i % 64) 0
def X0 (block : Zj → BitVec 32 → Zj → Zj) (key : Zj) (cr : BitVec 32) (nz l : Zj) : Zj :=
 Wy (Aa block key cr nz l) 0 l.length l.length
@[simp] theorem Fb (block : Zj → BitVec 32 → Zj → Zj) (key : Zj) (cr : BitVec 32) (nz l : Zj) : (X0 block key cr nz l).length = l.length := by simp [X0]
def Ci (key : Zj) (cr : BitVec 32) (nz : Zj) (k : Nat) : Zj :=
 if k = 0 then List.replicate 64 0 else Z4 key (cr + BitVec.ofNat 32 ((k - 1) / 64)) nz
@[simp] theorem Qnx (key : Zj) (cr : BitVec 32) (nz : Zj) (k : Nat) : (Ci key cr nz k).length = 64 := by unfold Ci; split <;> simp
theorem held_mid {key : Zj} {cr : BitVec 32} {nz : Zj} {k : Nat} (h : ¬ ((k : Int) % 64 = 0)) : Ci key cr nz k = Z4 key (cr + BitVec.ofNat 32 (k / 64)) nz := by
 have h1 : ¬ k = 0 := by rintro rfl; simp at h
 have h2 : (k - 1) / 64 = k / 64 := by omega
 rw [Ci, if_neg h1, h2]
theorem Qnw (key : Zj) (cr : BitVec 32) (nz : Zj) (k : Nat) : Ci key cr nz (k + 1) = Z4 key (cr + BitVec.ofNat 32 (k / 64)) nz := by
 rw [Ci, if_neg oM, Nat.add_sub_cancel]
theorem Qf9 {cr : BitVec 32} {k : Nat} (h : (k : Int) % 64 = 0) : cr + BitVec.ofNat 32 ((k + 63) / 64) = cr + BitVec.ofNat 32 (k / 64) := by
 have : (k + 63) / 64 = k / 64 := by omega
 rw [this]
theorem Qlu {cr : BitVec 32} {k : Nat} : cr + BitVec.ofNat 32 (k / 64) + 1 = cr + BitVec.ofNat 32 ((k + 1 + 63) / 64) := by
 have : (k + 1 + 63) / 64 = k / 64 + 1 := by omega
 rw [this, BitVec.add_assoc]; congr 1; simp [BitVec.ofNat_add]
theorem count_zs {cr : BitVec 32} {k : Nat} (h : (k : Int) % 64 = 0) : cr + BitVec.ofNat 32 ((k + 63) / 64) + 1#32 = cr + BitVec.ofNat 32 ((k + 1 + 63) / 64) := by
 rw [Qf9 h]; exact Qlu
theorem Qob {cr : BitVec 32} {k : Nat} (h : ¬ ((k : Int) % 64 = 0)) : cr + BitVec.ofNat 32 ((k + 63) / 64) = cr + BitVec.ofNat 32 ((k + 1 + 63) / 64) := by
 have : (k + 63) / 64 = (k + 1 + 63) / 64 := by omega
 rw [this]
theorem Qjg {block : Zj → BitVec 32 → Zj → Zj} {key : Zj} {cr : BitVec 32} {nz l : Zj} {k : Nat} :
  l.getD k 0 ^^^ (block key (cr + BitVec.ofNat 32 (k / 64)) nz).getD ((k : Int) % 64).toNat 0 = Aa block key cr nz l k := by
 have : ((k : Int) % 64).toNat = k % 64 := by omega
 rw [this]; rfl
theorem Qi5 (key : Zj) (cr : BitVec 32) (nz : Zj) (v : Value) (l : Zj) (w0 : World)  (hk : key.length = 32) (hn : nz.length = 12) (hr : Rd (Yn w0) u8 v l) (hl : l.length ≤ 281474976710656) : Xm prog 61 #[(agg u8 key), (u32 cr), (agg u8 nz), v] w0 (fun r w1 => ∃ b, r = Kq b 0 (X0 Z4 key cr nz l).length (X0 Z4 key cr nz l).length ∧ Mem w1 (Qu w0) [(b, .cells (cl u8 (X0 Z4 key cr nz l)) 5 (0, 0))]) := by
 refine Qy (args := [(agg u8 key), (u32 cr), (agg u8 nz), v]) func61 rfl ntmps61 results61 rfl ?_
 have m0 : Mem w0 (Qu w0) [] := Mem.of_world w0
 refine sR <| Y5 (Zw (f := u8) (l := key) m0 rfl) fun w1 b4 m1 => Y5 (Zw (f := u8) (l := nz) m1 rfl) fun w2 b6 m2 => Zv Jp ?_
 refine rN (sR ?_)
 refine Zb v <| Qd (Yg (Rd.ofRest hr m2) Zx rfl) <| Y5 (Dq m2 Zx Yw rfl rfl oM oM oM oM) fun w3 b15 m3 => ?_
 rw [Ph u8 0 rfl] at m3
 have m3 : Mem w3 (Qu w0) [(b15, .cells (cl u8 (List.replicate l.length (0 : BitVec 8))) 5 (0, 0)), (b6, .cells (cl u8 nz) 77 (0, 0)), (b4, .cells (cl u8 key) 23 (0, 0))] := m3
 refine Zv (Kq b15 0 l.length l.length) ?_
 refine rN (sR ?_)
 refine Y5 (Zf m3 Qgx) fun w4 b10 m4 => ?_
 refine rN (Qc (sR ?_))
 refine Zb v <| Qd (Yg (Rd.ofRest hr m4) Zx rfl) <| Zb (i64 0) ?_
 refine rN (Qj ?_)
 refine Jq (fun g wv => ∃ (k : Nat), (k ≤ l.length) ∧ g 0 = (agg u8 key) ∧ g 1 = (u32 (cr + BitVec.ofNat 32 ((k + 63) / 64))) ∧ g 2 = (agg u8 nz) ∧ g 3 = v ∧ g 4 = (ptr b4 0) ∧ g 6 = (ptr b6 0) ∧ g 8 = Jp ∧ g 9 = (Kq b15 0 l.length l.length) ∧ g 10 = (ptr b10 0) ∧ g 16 = v ∧ g 17 = (i64 (l.length : Int)) ∧ g 18 = (i64 (k : Int)) ∧ Mem wv (Qu w0) [(b10, .cells (cl u8 (Ci key cr nz k)) 139 (0, 0)), (b15, .cells (cl u8 (Wy (Aa Z4 key cr nz l) 0 l.length k)) 5 (0, 0)), (b6, .cells (cl u8 nz) 77 (0, 0)), (b4, .cells (cl u8 key) 23 (0, 0))]) (fun g wv => ((l.length : Int) - RowKit.intOf (g 18)).toNat) ?_ ?_
 ·exact ⟨0, oM, rfl, (Eq.trans (show _ = (u32 cr) from rfl) Xk), rfl, rfl, rfl, rfl, rfl, rfl, rfl, rfl, rfl, rfl, (by rw [Nc]; exact m4)⟩
 rintro fr5 w6 ⟨k, hk1, s0, s1, s2, s3, s4, s6, s8, s9, s10, s16, s17, s18, m6⟩
 have z18 := s18
 have z1 := s1
 refine sR <| Qd (Xy s18 s17) ?_
 refine rN (Qc ?_)
 refine Xb rfl (fun hc7 => ?_) (fun hc7 => ?_)
 ·
  have hc7p := of_decide_eq_true hc7
  refine Qo (Qa (Qc (Qj (sR ?_))))
  refine Yk s18 <| Qd (Xr (Rd.ofRest hr m6) Zx Yw s16 s18 oM sD) <| Qd (v := (u8 (l.getD k 0))) (Y4 (l := l) (i := (k : Int)) (dflt := 0) (Rd.ofRest hr m6) Uu rfl oM sD rfl) <| Zv (i64 (k : Int)) <| Zv (u8 (l.getD k 0)) ?_
  refine rN (Qc (sR ?_))
  refine Zb (i64 (k : Int)) <| Qd (J4 (b := 64) rfl rfl oM oM oM) <| Qd (J5 (b := 0) rfl rfl) <| rN ?_
  refine Qa2 (J := fun g wv => g 0 = (agg u8 key) ∧ g 1 = (u32 (cr + BitVec.ofNat 32 ((k + 1 + 63) / 64))) ∧ g 2 = (agg u8 nz) ∧ g 3 = v ∧ g 4 = (ptr b4 0) ∧ g 6 = (ptr b6 0) ∧ g 8 = Jp ∧ g 9 = (Kq b15 0 l.length l.length) ∧ g 10 = (ptr b10 0) ∧ g 11 = (i64 (k : Int)) ∧ g 12 = (u8 (l.getD k 0)) ∧ g 16 = v ∧ g 17 = (i64 (l.length : Int)) ∧ g 18 = (i64 (k : Int)) ∧ g 19 = (bl (decide ((k : Int) < (l.length : Int)))) ∧ g 25 = (bl (((k : Int) % 64) == 0)) ∧ Mem wv (Qu w0) [(b10, .cells (cl u8 (Z4 key (cr + BitVec.ofNat 32 (k / 64)) nz)) 139 (0, 0)), (b15, .cells (cl u8 (Wy (Aa Z4 key cr nz l) 0 l.length k)) 5 (0, 0)), (b6, .cells (cl u8 nz) 77 (0, 0)), (b4, .cells (cl u8 key) 23 (0, 0))]) ?_ ?_
  ·skip
   refine Xb rfl (fun hc8 => ?_) (fun hc8 => ?_)
   ·
    have hc8p := eq_of_beq hc8
    refine sR <| Qd (Qw Xf rfl Zi s4 m6.h3 sZ) <| Yk s1 <| Qd (Qw Sl rfl Qb4 s6 m6.h2 sZ) <| Dx m6 (oc89 (U2 rfl rfl rfl) (c_block _ (cr + BitVec.ofNat 32 ((k + 63) / 64)) _ _ sD sD)) fun w9 m9 => Yb m9 (Qq (f := u8) (l := Z4 key (cr + BitVec.ofNat 32 ((k + 63) / 64)) nz) Q9 Qgx s10 rfl sD m9.h0 sZ rfl) fun w11 m11 => ?_
    refine rN (Qb ?_)
    refine Yk s1 <| Qd (Yr (b := 1#32) rfl rfl) <| Zv (u32 ((cr + BitVec.ofNat 32 ((k + 63) / 64)) + 1#32)) <| rN ?_
    exact ⟨s0, Eq.trans rfl (congrArg u32 (count_zs hc8p)), s2, s3, s4, s6, s8, s9, s10, rfl, rfl, s16, s17, s18, rfl, rfl, (by rw [← Qf9 hc8p]; exact m11)⟩
   ·
    have hc8p := ne_of_beq_false hc8
    refine Qo (Qa ?_)
    exact ⟨s0, Eq.trans s1 (congrArg u32 (Qob hc8p)), s2, s3, s4, s6, s8, s9, s10, rfl, rfl, s16, s17, s18, rfl, rfl, (by rw [← held_mid hc8p]; exact m6)⟩
  rintro fr12 w13 ⟨s0, s1, s2, s3, s4, s6, s8, s9, s10, s11, s12, s16, s17, s18, s19, s25, m13⟩
  refine Qb <| Yk s9 <| Yk s11 <| Yk s12 <| Yk s11 <| Qd (J4 (b := 64) rfl rfl oM oM oM) <| Qd (Xc (r := ((k : Int) % 64 : Int).toNat) oM uT139 Yw s10 rfl oM sD) <| Qd (v := (u8 ((Z4 key (cr + BitVec.ofNat 32 (k / 64)) nz).getD (((k : Int) % 64 : Int).toNat) 0))) (Ql Uu rfl rfl m13.h0 (Qv _ _ 0 sD)) <| Qd (Qa0 rfl rfl) <| Qd (Po (r := k) oM Zx Yw rfl rfl oM sD) <| Vq m13 (X9 (f := u8) (a := (l.getD k 0) ^^^ ((Z4 key (cr + BitVec.ofNat 32 (k / 64)) nz).getD (((k : Int) % 64 : Int).toNat) 0)) Q9 Yw rfl rfl m13.h1 sD (.inl (Nat.zero_le _))) fun w14 m14 => ?_
  refine Zo (Qh (Qb ?_))
  refine Qd (Z9 (b := 1) s18 rfl oM oM) <| Zb (i64 ((k : Int) + 1)) <| rN ?_
  exact ⟨⟨k + 1, oM, s0, s1, s2, s3, s4, s6, s8, s9, s10, s16, s17, rfl, (by rw [Qnw, ← Ri (Aa Z4 key cr nz l) 0 (n := l.length) (k := k) oM _ Qjg]; exact m14)⟩, Am rfl z18 oM oM⟩
 ·
  have hc7p := of_decide_eq_false hc7
  obtain rfl : k = l.length := by omega
  refine Yc ?_
  refine Qr (Qr (Xp ?_))
  refine sR <| Yk s9 <| Zv (Kq b15 0 l.length l.length) ?_
  refine rN (Zy ?_)
  refine Qs [(Kq b15 0 l.length l.length)] ⟨rfl, trivial⟩ ?_
  exact ⟨b15, by rw [Fb]; rfl, Mem.weak (H' := [_, _, _]) (Mem.pick [_] [_] _ m6)⟩
end --m
end Go.Proofs.YtkmiemlpfkfiiaaDoor
