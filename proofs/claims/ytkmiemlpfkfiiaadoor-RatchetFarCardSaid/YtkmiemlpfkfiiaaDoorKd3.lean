/- Contracts: kdf, third part. Conditions: none beyond those that each theorem states. -/
import Derived.Test.YtkmiemlpfkfiiaaDoorKd1
namespace Go.Proofs.YtkmiemlpfkfiiaaDoor
open Tryd
section
set_option linter.unusedVariables false
set_option linter.unusedSimpArgs false
def Fj (m : Nat) (L : Zj) : List Zj := (List.range m).map fun i => (L.drop (32 * i)).take 32
theorem Qku (m : Nat) (L : Zj) : Fj (m + 1) L = Fj m L ++ [(L.drop (32 * m)).take 32] := by unfold Fj; rw [List.range_succ, List.map_append]; rfl
@[simp] theorem Qam (m : Nat) (L : Zj) : (Fj m L).length = m := by simp [Fj]
def badK (n : Int) : Bool := decide (n < 0) || decide (255 < n)
def Qcw (n : Int) : Int := if badK n then 2 else 0
def Ha (n : Int) : Nat := if badK n then 0 else n.toNat
theorem manyK_le (n : Int) : Ha n ≤ 255 := by
 unfold Ha badK; split
 ·omega
 rename_i h; simp at h; omega
def J9 (salt secret purpose : Zj) (n : Int) : List Zj := Fj (Ha n) (Jz (Ja salt secret) purpose (32 * Ha n))
theorem Qkl {key info : Zj} {n : Int} (h : 0 ≤ n) : Bo key info ((if 8160 < n then 8160 else n) * 32) = Jz key info (32 * Ha n) ∧ Qa9 ((if 8160 < n then 8160 else n) * 32) = Qcw n := by
 by_cases hb : 255 < n
 ·have h1 : badK n = true := by simp [badK, hb]
  have h2 : Qen ((if 8160 < n then 8160 else n) * 32) = true := by
   unfold Qen; split <;> simp <;> omega
  unfold Bo Qa9 Qcw Ha
  rw [h1, h2]
  simp [Jz, Qdc]
 have h1 : badK n = false := by simp [badK]; omega
 have h3 : (if 8160 < n then 8160 else n) = n := if_neg oM
 have h2 : Qen (n * 32) = false := by unfold Qen; simp; omega
 unfold Bo Qa9 Qcw Ha
 rw [h3, h1, h2]
 have e : (n * 32).toNat = 32 * n.toNat := by omega
 simp [e]
theorem tail32 {X bl : Zj} {j : Nat} (h : bl = X.drop (32 * j)) : (bl.drop (32 : Int).toNat).take ((bl.length : Int).toNat - (32 : Int).toNat) = X.drop (32 * (j + 1)) := by
 subst h
 have e : (32 : Int).toNat = 32 := rfl
 rw [e, List.take_of_length_le (by simp; omega), List.drop_drop]; congr 1
theorem head32 {X bl : Zj} {j : Nat} (h : bl = X.drop (32 * j)) : ((bl.drop 0).take 32).take 32 = (X.drop (32 * j)).take 32 := by
 subst h; rw [List.drop_zero, List.take_take]; rfl
attribute [local irreducible] Zu tK Qdc Jz Ja
set_option maxHeartbeats 1000000 in
theorem c_keys (va : Value) (la : Zj) (vb : Value) (lb : Zj) (pu : ByteArray) (n : Int) (w0 : World)  (hT : Tabs (Yn w0)) (hra : Rd (Yn w0) u8 va la) (hla : la.length ≤ 1048576) (hrb : Rd (Yn w0) u8 vb lb) (hlb : lb.length ≤ 1048576) (hpu : pu.size ≤ 1048576) (hnr : -9223372036854775808 ≤ n ∧ n ≤ 9223372036854775807) : Xm prog 73 #[va, vb, (Value.string pu), (i64 n)] w0 (fun r w1 => ∃ v Hs, r = Value.tuple #[v, i64 (Qcw n)] ∧ Yf (Fz u8) 32 23 v (J9 la lb (J6 pu) n) Hs ∧ Mem w1 (Qu w0) Hs) := by
 refine Qy (args := [va, vb, (Value.string pu), (i64 n)]) func73 rfl ntmps73 results73 rfl ?_
 have m0 : Mem w0 (Qu w0) [] := Mem.of_world w0
 refine sR <| Zv Jp <| Zv (i64 0) ?_
 refine rN (Qc (sR ?_))
 refine Zb (i64 n) <| Qd (Xy (b := 0) rfl rfl) <| rN ?_
 refine Xb rfl (fun hc1 => ?_) (fun hc1 => ?_)
 ·
  have hc1p := of_decide_eq_true hc1
  refine sR <| Zv Jp <| Zv (i64 2) ?_
  refine rN (Zy (Y7 ?_))
  refine Qs [Jp, (i64 2)] ⟨rfl, rfl, trivial⟩ ?_
  have hbad : badK n = true := by simp [badK]; omega
  exact ⟨Value.slice none 0 0, [], by unfold Qcw; rw [if_pos hbad]; rfl, by unfold J9 Ha; rw [if_pos hbad]; exact Yf.none _ _ _, m0⟩
 ·
  have hc1p := of_decide_eq_false hc1
  refine Qo (Qa (sR ?_))
  refine Zb va <| Zb vb <| Dx m0 (oc96 (X3 rfl rfl) (Qof va la vb lb _ (hT.mono fun b o e => (m0).rest b o e) (Rd.ofRest hra m0) sD (Rd.ofRest hrb m0) sD)) fun w2 m2 => Zb (Value.string pu) <| G5 (Qj1 (s := pu) m2 uT9 Zx Uu rfl sD) ?_
  rintro _ w4 ⟨b18, cap4, cc4, fz4, rfl, e4, m4, hcv4⟩
  have m4 : Mem w4 (Qu w0) [(b18, .cells cc4 5 fz4)] := m4
  refine Zb (i64 n) <| Qd (v := (i64 (if 8160 < n then 8160 else n))) (Qlm (j := 8160) rfl rfl) <| Qd (Cj (b := 32) rfl rfl oM oM) <| G5 (oc95 (U2 rfl rfl rfl) (c_expand _ (Kq b18 0 pu.size cap4) (J6 pu) _ _ (hT.mono fun b o e => (m4).rest b o e) sD (hcv4 _ m4.h0) sD)) ?_
  rintro _ w5 ⟨vxq6, Hsq6, rfl, gvxq6, k_w5⟩
  have m5 : Mem _ _ (Hsq6 ++ ([_])) := Mem.new (H := [_]) (H' := Hsq6) m4 k_w5
  obtain ⟨X, hX⟩ : ∃ X, X = Jz (Ja la lb) (J6 pu) (32 * Ha n) := ⟨_, rfl⟩
  have hXl : X.length = 32 * Ha n := by rw [hX, U8]
  have hmk := manyK_le n
  have hek := Qkl (key := Ja la lb) (info := J6 pu) (n := n) oM
  have gX7 := gvxq6
  rw [hek.1, ← hX] at gX7
  refine Zb (Value.tuple #[vxq6, (i64 (Qa9 ((if 8160 < n then 8160 else n) * 32)))]) <| Qd (v := vxq6) (Zg rfl rfl) <| Qd (v := (i64 (Qa9 ((if 8160 < n then 8160 else n) * 32)))) (Zg rfl rfl) <| Zv vxq6 <| Zv (i64 (Qa9 ((if 8160 < n then 8160 else n) * 32))) ?_
  refine rN (Qc (Qj ?_))
  refine Jq (fun g wv => ∃ (j : Nat) (bq : Zj) (bv : Value) (Hb : List (Nat × Obj)) (sk : Value) (Hk : List (Nat × Obj)), (j ≤ Ha n) ∧ (bq = X.drop (32 * j)) ∧ (Xl u8 5 bv bq Hb) ∧ (Yf (Fz u8) 32 23 sk (Fj j X) Hk) ∧ g 0 = va ∧ g 1 = vb ∧ g 2 = (Value.string pu) ∧ g 3 = (i64 n) ∧ g 8 = sk ∧ g 9 = (i64 (Qa9 ((if 8160 < n then 8160 else n) * 32))) ∧ g 10 = bv ∧ g 12 = (bl (decide (n < 0))) ∧ Mem wv (Qu w0) (Hb ++ (Hk ++ ([])))) (fun g wv => sllen (g 10)) ?_ ?_
  have m8 := Mem.drop [_] _ (Mem.pick Hsq6 [_] _ m5)
  ·exact ⟨0, X, vxq6, Hsq6, Jp, [], (Nat.zero_le _), Xk, gX7, (Yf.none (Fz u8) 32 23), rfl, rfl, rfl, rfl, rfl, rfl, rfl, rfl, m8⟩
  rintro fr9 w10 ⟨j, bq, bv, Hb, sk, Hk, hj, hbl, gbb, gkk, s0, s1, s2, s3, s8, s9, s10, s12, m10⟩
  have z10 := s10
  have z8 := s8
  have hbn : bq.length = 32 * Ha n - 32 * j := by rw [hbl, List.length_drop, hXl]
  refine Qc (sR ?_)
  refine Yk s10 <| Qd (Yg (gbb.rd m10) Zx rfl) <| Qd (Cm (b := 0) rfl rfl) <| rN ?_
  refine Xb rfl (fun hc11 => ?_) (fun hc11 => ?_)
  ·
   have hc11p := of_decide_eq_true hc11
   refine Qo (Qa (Df (sR ?_)))
   refine Yk s8 <| Yk s10 <| Qd (Yv (i := 0) (j := 32) (gbb.rd m10) Zx Yw rfl (Zc _ _) (Xv (k := .i64) (i := 32) rfl) oM sD sD) <| Qd (ev_sap ((Xl.cast (l' := (bq.drop 0).take 32) (Xl.sub (i := 0) (j := 32) gbb oM sD sD) rfl).rd m10) Xf rfl sD) <| Qd (v := (agg u8 (((bq.drop 0).take 32).take 32))) (Qd8 (l := (bq.drop 0).take 32) ((Xl.cast (l' := (bq.drop 0).take 32) (Xl.sub (i := 0) (j := 32) gbb oM sD sD) rfl).rd m10) Xf Zi rfl sD rfl) <| Y5 (Pj (cs := (cl u8 (((bq.drop 0).take 32).take 32))) m10 uT82 Zi rfl rfl rfl sZ) fun w12 b33 m12 => ?_
   have m12 : Mem w12 (Qu w0) ([(b33, .cells (cl u8 (((bq.drop 0).take 32).take 32)) 23 (0, 0))] ++ (Hb ++ (Hk ++ ([])))) := m12
   refine G5 (Qbp (enc := (Fz u8)) (k := 32) (Hs := Hk) (H := [_] ++ (Hb ++ ([]))) (Mem.pick2 [_] Hb Hk _ m12) gkk rfl rfl (RdK.ofOne (enc := (Fz u8)) (k := 32) (a := (((bq.drop 0).take 32).take 32)) m12.h0 rfl (by simp only [Fz, List.length_map]; first | omega | (simp; done) | (simp; omega) | decide)) uT82 uT82 Zi rfl rfl (fun _ _ => Yj Q9 _) sD sD) ?_
   rintro sv13 w13 ⟨Hs13, m13, g13⟩
   replace g13 : Yf (Fz u8) 32 23 sv13 ((Fj j X) ++ ([((bq.drop 0).take 32).take 32])) Hs13 := g13
   refine Zv sv13 ?_
   refine rN (Qb ?_)
   refine Yk s10 <| Qd (Yv (i := 32) (j := (bq.length : Int)) (gbb.rd (Mem.pick2 Hs13 [_] Hb _ m13)) Zx Yw rfl (Xv (k := .i64) (i := 32) rfl) (Zc _ _) oM sD sD) <| Zv (Ai bv 32 (bq.length : Int)) ?_
   refine Zo (Qh (Qa ?_))
   have m14 := Mem.drop [_] _ (Mem.pick Hs13 [_] _ m13)
   have m15 := (Mem.pick Hs13 Hb _ m14)
   exact ⟨⟨j + 1, ((bq.drop (32 : Int).toNat).take (((bq.length : Int) : Int).toNat - (32 : Int).toNat)), (Ai bv 32 (bq.length : Int)), Hb, sv13, Hs13, oM, (tail32 hbl), (Xl.cast (l' := (bq.drop (32 : Int).toNat).take (((bq.length : Int) : Int).toNat - (32 : Int).toNat)) (Xl.sub (i := 32) (j := (bq.length : Int)) gbb oM sD sD) rfl), (Yf.cast g13 (by rw [head32 hbl, ← Qku])), s0, s1, s2, s3, rfl, s9, rfl, s12, m15⟩, (by show sllen (Ai bv 32 (bq.length : Int)) < sllen _; rw [z10, gbb.sllen, Xl.sllen (Xl.cast (l' := (bq.drop (32 : Int).toNat).take (((bq.length : Int) : Int).toNat - (32 : Int).toNat)) (Xl.sub (i := 32) (j := (bq.length : Int)) gbb oM sD sD) rfl)]; simp; omega)⟩
  ·
   have hc11p := of_decide_eq_false hc11
   refine Yc ?_
   refine Qr (Qr (Xp ?_))
   refine Qc ?_
   have hbn : bq.length = 32 * Ha n - 32 * j := by rw [hbl, List.length_drop, hXl]
   have hjn : j = Ha n := by omega
   refine Qb <| Yk s8 <| Yk s9 <| Zv sk <| Zv (i64 (Qa9 ((if 8160 < n then 8160 else n) * 32))) ?_
   refine rN (Zy ?_)
   refine Qs [sk, (i64 (Qa9 ((if 8160 < n then 8160 else n) * 32)))] ⟨rfl, rfl, trivial⟩ ?_
   have m16 := Mem.drop Hb _ m10
   exact ⟨sk, Hk, by rw [← hek.2]; rfl, by unfold J9; rw [← hX, ← hjn]; exact gkk, by simpa using m16⟩
end --m
section
set_option linter.unusedVariables false
set_option linter.unusedSimpArgs false
@[simp] theorem filled_len {α : Type} (g : Nat → α) (z : α) (n k : Nat) : (Wy g z n k).length = k + (n - k) := by simp [Wy]
attribute [local irreducible] Zu tK Qdc Jz Ja J9 Bo Qcw Qa9
theorem Qm2 (mark : BitVec 8) (bk : Nat) (chain : Zj) (w0 : World)  (hT : Tabs (Yn w0)) (hbk : Yn w0 bk = some (.cells (cl u8 chain) 23 (0, 0))) (hcl : chain.length = 32) : Xm prog 58 #[(u8 mark), (ptr bk 0)] w0 (fun r w1 => r = (agg u8 (Zu chain [mark])) ∧ Ext w0 w1) := by
 refine Qy (args := [(u8 mark), (ptr bk 0)]) func58 rfl ntmps58 results58 rfl ?_
 have m0 : Mem w0 (Qu w0) [] := Mem.of_world w0
 refine sR <| Y5 (Zf m0 Zi) fun w1 b3 m1 => ?_
 refine rN (sR ?_)
 refine Qd (Z7 (i := 0) (j := 32) Xf Yw rfl (Zc _ _) (Zc _ _) oM sD sD) <| Zb (u8 mark) <| Y5 (Zr u8 [mark] Q9 m1 Zx Yw rfl rfl rfl) fun w2 b6 m2 => Y5 (Y0 [(Kq b6 0 1 1)] (by simp [Kq, ptr, Value.oneCell', i64, u8, u32, u64, bl]) m2 Qeb Mc rfl rfl rfl) fun w3 b7 m3 => ?_
 have m3 : Mem w3 (Qu w0) [(b7, .cells #[(Kq b6 0 1 1)] 27 (0, 0)), (b6, .cells (cl u8 ([mark])) 5 (0, 0)), (b3, .cells (cl u8 (List.replicate 32 0)) 23 (0, 0))] := m3
 refine Dx m3 (oc59 (X3 rfl rfl) (N7 (sla bk 0 1 0 32 32) chain (Kq b7 0 1 1) ([((Kq b6 0 1 1), [mark])]) _ (hT.mono fun b o e => (m3).rest b o e) (Rd.slaAll (m3.rest _ _ hbk) sD) sD (Rd.mkA (f := Prod.fst) (l := [((Kq b6 0 1 1), [mark])]) m3.h0) (Gj (Rd.mkA m3.h1) Ei) (by rw [H5]; simp) sD)) fun w4 m4 => Qc3 m4 (Qq (f := u8) (l := Zu chain (Ji ([((Kq b6 0 1 1), [mark])]))) Q9 Zi rfl rfl sD m4.h2 sZ rfl) fun w6 m6 => ?_
 refine rN (Zy ?_)
 refine Qs [(agg u8 (Zu chain (Ji ([((Kq b6 0 1 1), [mark])]))))] ⟨⟨_, rfl, Xi Xf rfl Zi m6.h2 sZ⟩, trivial⟩ ?_
 exact ⟨congrArg (agg u8) (by rw [H5]), m6.toExt⟩
theorem Qlw (chain : Zj) (w0 : World)  (hT : Tabs (Yn w0)) (hcl : chain.length = 32) : Xm prog 32 #[(agg u8 chain)] w0 (fun r w1 => r = (Value.tuple #[(agg u8 (Zu chain [2#8])), (agg u8 (Zu chain [1#8]))]) ∧ Ext w0 w1) := by
 refine Qy (args := [(agg u8 chain)]) func32 rfl ntmps32 results32 rfl ?_
 have m0 : Mem w0 (Qu w0) [] := Mem.of_world w0
 refine sR <| Y5 (Zw (f := u8) (l := chain) m0 rfl) fun w1 b1 m1 => Y5 (Zf m1 Zi) fun w2 b2 m2 => Y5 (Zf m2 Zi) fun w3 b3 m3 => ?_
 refine rN (sR ?_)
 refine Qd (Qd7 (Jb rfl)) <| Zv (Value.func (.func 58) #[] #[(ptr b1 0)]) ?_
 refine rN (sR ?_)
 refine Zb (Value.func (.func 58) #[] #[(ptr b1 0)]) <| Dx m3 (Qdf (f := 58) rfl func58 bd58 nm58 (Jb rfl) (Qm2 2#8 b1 chain _ (hT.mono fun b o e => (m3).rest b o e) m3.h2 sD)) fun w4 m4 => Zb (Value.func (.func 58) #[] #[(ptr b1 0)]) <| Dx m4 (Qdf (f := 58) rfl func58 bd58 nm58 (Jb rfl) (Qm2 1#8 b1 chain _ (hT.mono fun b o e => (m4).rest b o e) m4.h2 sD)) fun w6 m6 => Vq m6 (Qq (f := u8) (l := Zu chain [2#8]) Q9 Zi rfl rfl sD m6.h1 sZ rfl) fun w8 m8 => Yb m8 (Qq (f := u8) (l := Zu chain [1#8]) Q9 Zi rfl rfl sD m8.h0 sZ rfl) fun w9 m9 => ?_
 refine rN (Zy ?_)
 refine Qs [(agg u8 (Zu chain [2#8])), (agg u8 (Zu chain [1#8]))] ⟨⟨_, rfl, Xi Xf rfl Zi m9.h1 sZ⟩, ⟨_, rfl, Xi Xf rfl Zi m9.h0 sZ⟩, trivial⟩ ?_
 exact ⟨rfl, m9.toExt⟩
end --m
end Go.Proofs.YtkmiemlpfkfiiaaDoor
