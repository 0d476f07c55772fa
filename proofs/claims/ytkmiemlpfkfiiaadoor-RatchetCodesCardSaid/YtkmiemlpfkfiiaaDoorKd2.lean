/- Contracts: kdf, second part. Conditions: none beyond those that each theorem states. -/
import Derived.Test.YtkmiemlpfkfiiaaDoorKd1
namespace Go.Proofs.YtkmiemlpfkfiiaaDoor
set_option linter.unusedVariables false
set_option linter.unusedSimpArgs false
def U3 (m : Nat) (L : List (BitVec 8)) : List (List (BitVec 8)) := (List.range m).map fun i => (L.drop (32 * i)).take 32
theorem Qfp (m : Nat) (L : List (BitVec 8)) : U3 (m + 1) L = U3 m L ++ [(L.drop (32 * m)).take 32] := by unfold U3; rw [List.range_succ, List.map_append]; rfl
@[simp] theorem Nh (m : Nat) (L : List (BitVec 8)) : (U3 m L).length = m := by simp [U3]
def badK (n : Int) : Bool := decide (n < 0) || decide (255 < n)
def Qah (n : Int) : Int := if badK n then 2 else 0
def Di (n : Int) : Nat := if badK n then 0 else n.toNat
theorem manyK_le (n : Int) : Di n ≤ 255 := by
  unfold Di badK; split
  · omega
  · rename_i h; simp at h; omega
def Va (salt secret purpose : List (BitVec 8)) (n : Int) : List (List (BitVec 8)) := U3 (Di n) (V7 (Vp salt secret) purpose (32 * Di n))
theorem Qfj {key info : List (BitVec 8)} {n : Int} (h : 0 ≤ n) : En key info ((if 8160 < n then 8160 else n) * 32) = V7 key info (32 * Di n) ∧ H9 ((if 8160 < n then 8160 else n) * 32) = Qah n := by
  by_cases hb : 255 < n
  · have h1 : badK n = true := by simp [badK, hb]
    have h2 : Qb6 ((if 8160 < n then 8160 else n) * 32) = true := by
      unfold Qb6; split <;> simp <;> omega
    unfold En H9 Qah Di
    rw [h1, h2]
    simp [V7, Qa0]
  · have h1 : badK n = false := by simp [badK]; omega
    have h3 : (if 8160 < n then 8160 else n) = n := if_neg oM
    have h2 : Qb6 (n * 32) = false := by unfold Qb6; simp; omega
    unfold En H9 Qah Di
    rw [h3, h1, h2]
    have e : (n * 32).toNat = 32 * n.toNat := by omega
    simp [e]
theorem tail32 {X bl : List (BitVec 8)} {j : Nat} (h : bl = X.drop (32 * j)) : (bl.drop (32 : Int).toNat).take ((bl.length : Int).toNat - (32 : Int).toNat) = X.drop (32 * (j + 1)) := by
  subst h
  have e : (32 : Int).toNat = 32 := rfl
  rw [e, List.take_of_length_le (by simp; omega), List.drop_drop]; congr 1
theorem head32 {X bl : List (BitVec 8)} {j : Nat} (h : bl = X.drop (32 * j)) : ((bl.drop 0).take 32).take 32 = (X.drop (32 * j)).take 32 := by
  subst h; rw [List.drop_zero, List.take_take]; rfl
attribute [local irreducible] Ya tK Qa0 V7 Vp
set_option maxHeartbeats 1000000 in
theorem c_keys (va : Value) (la : List (BitVec 8)) (vb : Value) (lb : List (BitVec 8)) (pu : ByteArray) (n : Int) (w0 : World)  (hT : Tabs (Y3 w0)) (hra : Rd (Y3 w0) u8 va la) (hla : la.length ≤ 1048576) (hrb : Rd (Y3 w0) u8 vb lb) (hlb : lb.length ≤ 1048576) (hpu : pu.size ≤ 1048576) (hnr : -9223372036854775808 ≤ n ∧ n ≤ 9223372036854775807) : X8 Tryd.prog 73 #[va, vb, (Value.string pu), (i64 n)] w0 (fun r w1 => ∃ v Hs, r = Value.tuple #[v, i64 (Qah n)] ∧ Y6 (Qc0 u8) 32 23 v (Va la lb (J3 pu) n) Hs ∧ Mem w1 (Qo w0) Hs) := by
 refine Zp (args := [va, vb, (Value.string pu), (i64 n)]) Tryd.func73 rfl Tryd.ntmps73 Tryd.results73 rfl ?_
 have hm0 : Mem w0 (Qo w0) [] := Mem.of_world w0
 refine sR <| Qb rfl (Qd (v := (Value.slice none 0 0)) rfl) <| Qb rfl (Qd (v := (i64 0)) rfl) ?_
 refine rN (Qh (sR ?_))
 refine Qb rfl (Qc (v := (i64 n)) rfl) <| Qb rfl (Qs (b := 0) rfl rfl) <| rN ?_
 refine Xy rfl (fun hc1 => ?_) (fun hc1 => ?_)
 ·
   have hc1p := of_decide_eq_true hc1
   refine sR <| Qb rfl (Qd (v := (Value.slice none 0 0)) rfl) <| Qb rfl (Qd (v := (i64 2)) rfl) ?_
   refine rN (Xn (Jv ?_))
   refine Zj [(Value.slice none 0 0), (i64 2)] ⟨rfl, rfl, trivial⟩ ?_
   have hbad : badK n = true := by simp [badK]; omega
   exact ⟨Value.slice none 0 0, [], by unfold Qah; rw [if_pos hbad]; rfl, by unfold Va Di; rw [if_pos hbad]; exact Y6.none _ _ _, hm0⟩
 ·
   have hc1p := of_decide_eq_false hc1
   refine Zc (Qi (sR ?_))
   refine rM rfl (v := va) rfl <| rM rfl (v := vb) rfl <| Zo rfl (Qx Tryd.func96 bd96 nm96 (Yk rfl rfl) (Qh6 va la vb lb _ (hT.mono fun b o e => (hm0).rest b o e) (Rd.ofRest hra hm0) sD (Rd.ofRest hrb hm0) sD)) ?_
   rintro _ w2 ⟨rfl, _ew2⟩
   have hm2 := hm0.ext _ew2
   refine Qb rfl (Qc (v := (Value.string pu)) rfl) <| Zo rfl (Qe9 (s := pu) hm2 uT9 Z4 Vh rfl sD) ?_
   rintro _ w4 ⟨b18, cap4, cc4, fz4, rfl, _ew4, hm4, hcv4⟩
   have hm4 : Mem w4 (Qo w0) [(b18, .cells cc4 5 fz4)] := hm4
   refine Qb rfl (Qc (v := (i64 n)) rfl) <| Qb (v := (i64 (if 8160 < n then 8160 else n))) rfl (Qgf (j := 8160) rfl rfl) <| Qb rfl (Xj (b := 32) rfl rfl oM oM) <| Zo rfl (Qx Tryd.func95 bd95 nm95 (Ad rfl rfl rfl) (c_expand (Vp la lb) (Jt b18 0 pu.size cap4) (J3 pu) ((if 8160 < n then 8160 else n) * 32) _ (hT.mono fun b o e => (hm4).rest b o e) sD (hcv4 _ hm4.h0) sD)) ?_
   rintro _ w5 ⟨vxq6, Hsq6, rfl, gvxq6, k_w5⟩
   have hm5 : Mem w5 (Qo w0) (Hsq6 ++ ([(b18, .cells cc4 5 fz4)])) := Mem.new (H := [(b18, .cells cc4 5 fz4)]) (H' := Hsq6) hm4 k_w5
   obtain ⟨X, hX⟩ : ∃ X, X = V7 (Vp la lb) (J3 pu) (32 * Di n) := ⟨_, rfl⟩
   have hXl : X.length = 32 * Di n := by rw [hX, Ud]
   have hmk := manyK_le n
   have hek := Qfj (key := Vp la lb) (info := J3 pu) (n := n) oM
   have gX7 := gvxq6
   rw [hek.1, ← hX] at gX7
   refine Qb rfl (Qc (v := (Value.tuple #[vxq6, (i64 (H9 ((if 8160 < n then 8160 else n) * 32)))])) rfl) <| Qb (v := vxq6) rfl (Xu rfl rfl) <| Qb (v := (i64 (H9 ((if 8160 < n then 8160 else n) * 32)))) rfl (Xu rfl rfl) <| rA rfl (v := vxq6) rfl <| Qb rfl (Qd (v := (i64 (H9 ((if 8160 < n then 8160 else n) * 32)))) rfl) <| rN ?_
   refine CW.abs (fun g => g 0 = va ∧ g 1 = vb ∧ g 2 = (Value.string pu) ∧ g 3 = (i64 n) ∧ g 8 = (Value.slice none 0 0) ∧ g 9 = (i64 (H9 ((if 8160 < n then 8160 else n) * 32))) ∧ g 10 = vxq6 ∧ g 12 = (bl (decide (n < 0))) ∧ True) ⟨rfl, rfl, rfl, rfl, rfl, rfl, rfl, rfl, trivial⟩ ?_
   rintro fr8 ⟨s0, s1, s2, s3, s8, s9, s10, s12, _⟩
   refine Qh (Qv ?_)
   refine Jg (fun g wv => ∃ (j : Nat) (bq : List (BitVec 8)) (bv : Value) (Hb : List (Nat × Obj)) (sk : Value) (Hk : List (Nat × Obj)), (j ≤ Di n) ∧ (bq = X.drop (32 * j)) ∧ (Xx u8 5 bv bq Hb) ∧ (Y6 (Qc0 u8) 32 23 sk (U3 j X) Hk) ∧ g 0 = va ∧ g 1 = vb ∧ g 2 = (Value.string pu) ∧ g 3 = (i64 n) ∧ g 8 = sk ∧ g 9 = (i64 (H9 ((if 8160 < n then 8160 else n) * 32))) ∧ g 10 = bv ∧ g 12 = (bl (decide (n < 0))) ∧ Mem wv (Qo w0) (Hb ++ (Hk ++ ([])))) (fun g wv => sllen (g 10)) ?_ ?_
   have hm9 := Mem.drop ([(b18, .cells cc4 5 fz4)]) _ (Mem.pick Hsq6 [_] _ hm5)
   · exact ⟨0, X, vxq6, Hsq6, (Value.slice none 0 0), [], (Nat.zero_le _), (by simp), gX7, (Y6.none (Qc0 u8) 32 23), s0, s1, s2, s3, s8, s9, s10, s12, hm9⟩
   · rintro fr10 w11 ⟨j, bq, bv, Hb, sk, Hk, hj, hbl, gbb, gkk, s0, s1, s2, s3, s8, s9, s10, s12, hm11⟩
     have z10 := s10
     have z8 := s8
     have hbn : bq.length = 32 * Di n - 32 * j := by rw [hbl, List.length_drop, hXl]
     refine Qh (sR ?_)
     refine rM rfl s10 <| Qb (v := (i64 (bq.length : Int))) rfl (Yi (gbb.rd hm11) Z4 rfl) <| Qb rfl (U9 (b := 0) rfl rfl) <| rN ?_
     refine Xy rfl (fun hc12 => ?_) (fun hc12 => ?_)
     ·
       have hc12p := of_decide_eq_true hc12
       refine Zc (Qi (Uo (sR ?_)))
       refine rM rfl s8 <| rM rfl s10 <| Qb rfl (Yr (i := 0) (j := 32) (gbb.rd hm11) Z4 Yq rfl (Zn _ _) (X9 (k := .i64) (i := 32) rfl) oM sD sD) <| Qb rfl (ev_sap ((Xx.cast (l' := (bq.drop 0).take 32) (Xx.sub (i := 0) (j := 32) gbb oM sD sD) rfl).rd hm11) Xo rfl sD) <| Qb (v := (agg u8 (((bq.drop 0).take 32).take 32))) rfl (Qbx (l := (bq.drop 0).take 32) ((Xx.cast (l' := (bq.drop 0).take 32) (Xx.sub (i := 0) (j := 32) gbb oM sD sD) rfl).rd hm11) Xo Z5 rfl sD rfl) <| Zo rfl (Eb (cs := (cl u8 (((bq.drop 0).take 32).take 32))) hm11 Sm Z5 rfl rfl rfl sZ) ?_
       rintro _ w13 ⟨b33, rfl, _ew13, hm13⟩
       have hm13 : Mem w13 (Qo w0) ([(b33, .cells (cl u8 (((bq.drop 0).take 32).take 32)) 23 (0, 0))] ++ (Hb ++ (Hk ++ ([])))) := hm13
       refine Zo rfl (Ap (enc := (Qc0 u8)) (k := 32) (Hs := Hk) (H := [(b33, .cells (cl u8 (((bq.drop 0).take 32).take 32)) 23 (0, 0))] ++ (Hb ++ ([]))) (Mem.pick2 [_] Hb Hk _ hm13) gkk rfl rfl (RdK.ofOne (enc := (Qc0 u8)) (k := 32) (a := (((bq.drop 0).take 32).take 32)) hm13.h0 rfl (by simp only [Qc0, List.length_map]; first | omega | (simp; done) | (simp; omega) | decide)) Sm Sm Z5 rfl rfl (fun _ _ => Zg Q8 _) sD sD) ?_
       rintro sv14 w14 ⟨Hs14, hm14, g14⟩
       replace g14 : Y6 (Qc0 u8) 32 23 sv14 ((U3 j X) ++ ([((bq.drop 0).take 32).take 32])) Hs14 := g14
       refine rA rfl (v := sv14) rfl <| rN ?_
       have hm15 := Mem.drop ([(b33, .cells (cl u8 (((bq.drop 0).take 32).take 32)) 23 (0, 0))]) _ (Mem.pick Hs14 [_] _ hm14)
       refine CW.abs (fun g => g 0 = va ∧ g 1 = vb ∧ g 2 = (Value.string pu) ∧ g 3 = (i64 n) ∧ g 8 = sv14 ∧ g 9 = (i64 (H9 ((if 8160 < n then 8160 else n) * 32))) ∧ g 10 = bv ∧ g 12 = (bl (decide (n < 0))) ∧ g 27 = (bl (decide (0 < (bq.length : Int)))) ∧ True) ⟨s0, s1, s2, s3, rfl, s9, s10, s12, rfl, trivial⟩ ?_
       rintro fr16 ⟨s0, s1, s2, s3, s8, s9, s10, s12, s27, _⟩
       refine Qg <| rM rfl s10 <| Qb rfl (Yr (i := 32) (j := (bq.length : Int)) (gbb.rd (Mem.pick Hs14 Hb _ hm15)) Z4 Yq rfl (X9 (k := .i64) (i := 32) rfl) (Zn _ _) oM sD sD) <| Qb rfl (Qd (v := (V8 bv 32 (bq.length : Int))) rfl) ?_
       refine Zz (Qn (Qi ?_))
       have hm17 := (Mem.pick Hs14 Hb _ hm15)
       exact ⟨⟨j + 1, ((bq.drop (32 : Int).toNat).take (((bq.length : Int) : Int).toNat - (32 : Int).toNat)), (V8 bv 32 (bq.length : Int)), Hb, sv14, Hs14, oM, (tail32 hbl), (Xx.cast (l' := (bq.drop (32 : Int).toNat).take (((bq.length : Int) : Int).toNat - (32 : Int).toNat)) (Xx.sub (i := 32) (j := (bq.length : Int)) gbb oM sD sD) rfl), (Y6.cast g14 (by rw [head32 hbl, ← Qfp])), s0, s1, s2, s3, s8, s9, rfl, s12, hm17⟩, (by show sllen (V8 bv 32 (bq.length : Int)) < sllen _; rw [z10, gbb.sllen, Xx.sllen (Xx.cast (l' := (bq.drop (32 : Int).toNat).take (((bq.length : Int) : Int).toNat - (32 : Int).toNat)) (Xx.sub (i := 32) (j := (bq.length : Int)) gbb oM sD sD) rfl)]; simp; omega)⟩
     ·
       have hc12p := of_decide_eq_false hc12
       refine Yb ?_
       refine Zb (Zb (Xw ?_))
       refine Qh ?_
       have hbn : bq.length = 32 * Di n - 32 * j := by rw [hbl, List.length_drop, hXl]
       have hjn : j = Di n := by omega
       refine Qg <| rM rfl s8 <| rM rfl s9 <| rA rfl (v := sk) rfl <| Qb rfl (Qd (v := (i64 (H9 ((if 8160 < n then 8160 else n) * 32)))) rfl) ?_
       refine rN (Xn ?_)
       refine Zj [sk, (i64 (H9 ((if 8160 < n then 8160 else n) * 32)))] ⟨rfl, rfl, trivial⟩ ?_
       have hm18 := Mem.drop Hb _ hm11
       exact ⟨sk, Hk, by rw [← hek.2]; rfl, by unfold Va; rw [← hX, ← hjn]; exact gkk, by simpa using hm18⟩
end Go.Proofs.YtkmiemlpfkfiiaaDoor
