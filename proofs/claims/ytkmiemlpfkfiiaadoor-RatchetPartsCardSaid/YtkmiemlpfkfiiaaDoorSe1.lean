/- Contracts: the seal, first part. Conditions: none beyond those that each theorem states. -/
import Derived.Test.YtkmiemlpfkfiiaaDoorKd3
import Derived.Test.YtkmiemlpfkfiiaaDoorFwP
namespace Go.Proofs.YtkmiemlpfkfiiaaDoor
open Tryd
set_option linter.unusedVariables false
set_option linter.unusedSimpArgs false
theorem manyK_ok {n : Int} (h0 : 0 ≤ n) (h1 : n ≤ 255) : S9 n = n.toNat := by unfold S9 badK; rw [if_neg (by simp; omega)]
theorem Qbt {a b p : Xg} {n : Int} (h0 : 0 ≤ n) (h1 : n ≤ 255) : Wp a b p n = Dh n.toNat (Vd (Wn a b) p (32 * n.toNat)) := by unfold Wp; rw [manyK_ok h0 h1]
theorem Qkx {a b p : Xg} {n : Int} (h0 : 0 ≤ n) (h1 : n ≤ 255) : ((Wp a b p n).length : Int) = n := by rw [Qbt h0 h1, Qdh]; omega
theorem Qdu {m k : Nat} {L : Xg} (h : k < m) (hL : L.length = 32 * m) : ((Dh m L).getD k []).length = 32 := by
 unfold Dh
 simp [List.getD_eq_getElem?_getD, h]; omega
def Ws (key : Xg) : Xg := (Wp [] key (Kv ⟨#[115, 101, 97, 108]⟩) 2).getD 0 []
def Ul (key : Xg) : Xg := (Wp [] key (Kv ⟨#[115, 101, 97, 108]⟩) 2).getD 1 []
theorem Qc8 (key : Xg) : (Ws key).length = 32 := by
 unfold Ws; rw [Qbt Jg Jg]; exact Qdu Jg (by rw [Dt])
theorem Qc9 (key : Xg) : (Ul key).length = 32 := by
 unfold Ul; rw [Qbt Jg Jg]; exact Qdu Jg (by rw [Dt])
def len8 (n : Int) : Xg := [(BitVec.ofInt 64 n >>> 56).setWidth 8, (BitVec.ofInt 64 n >>> 48).setWidth 8, (BitVec.ofInt 64 n >>> 40).setWidth 8, (BitVec.ofInt 64 n >>> 32).setWidth 8,
 (BitVec.ofInt 64 n >>> 24).setWidth 8, (BitVec.ofInt 64 n >>> 16).setWidth 8, (BitVec.ofInt 64 n >>> 8).setWidth 8, (BitVec.ofInt 64 n >>> 0).setWidth 8]
@[simp] theorem Qnk (n : Int) : (len8 n).length = 8 := rfl
def U1 (nz beside cipher : Xg) : Xg := nz ++ len8 (beside.length : Int) ++ beside ++ cipher
@[simp] theorem Me (nz beside cipher : Xg) : (U1 nz beside cipher).length = nz.length + 8 + beside.length + cipher.length := by simp only [U1, List.length_append, Qnk]
def Qd0 (key nz beside cipher : Xg) : Xg := Xk (Ul key) (U1 nz beside cipher)
@[simp] theorem tagP_length (key nz beside cipher : Xg) : (Qd0 key nz beside cipher).length = 32 := Gi _ _
def U8 (key nz plain : Xg) : Xg := Jy Yv (Ws key) 1#32 nz plain
@[simp] theorem Ny (key nz plain : Xg) : (U8 key nz plain).length = plain.length := Nq _ _ _ _ _
theorem Qfw (key nz plain : Xg) : Jy F7 (Ws key) 1#32 nz plain = U8 key nz plain := by unfold U8; exact (Qq7 _ _ _ _).symm
def F6 (key nz beside plain : Xg) : Xg := U8 key nz plain ++ Qd0 key nz beside (U8 key nz plain)
@[simp] theorem Qef (key nz beside plain : Xg) : (F6 key nz beside plain).length = plain.length + 32 := by simp [F6]
def Af (b : Xg) : Xg := b.take (b.length - 32)
def Ff (key nz beside b : Xg) : Bool := Qd0 key nz beside (Af b) == b.drop (b.length - 32)
def Tn (key nz beside b : Xg) : Int := if b.length < 32 then 3 else if Ff key nz beside b then 0 else 10
def Qam (key nz beside b : Xg) : Xg := if b.length < 32 then [] else if Ff key nz beside b then U8 key nz (Af b) else []
theorem Qj7 (b : Xg) : (Af b).length = b.length - 32 := by simp [Af]
theorem openQ_le (key nz beside b : Xg) : (Qam key nz beside b).length ≤ b.length := by
 unfold Qam; split
 ·simp
 split
 ·rw [Ny, Qj7]; omega
 simp
theorem Ur {b : Xg} (h : ¬ (b.length : Int) - 32 < 0) : (b.drop (0 : Int).toNat).take (((b.length : Int) - 32).toNat - (0 : Int).toNat) = Af b := by
 unfold Af; rw [show (0 : Int).toNat = 0 from rfl, List.drop_zero]; congr 1; omega
theorem Lj {b : Xg} (h : ¬ (b.length : Int) - 32 < 0) : (b.drop ((b.length : Int) - 32).toNat).take ((b.length : Int).toNat - ((b.length : Int) - 32).toNat) = b.drop (b.length - 32) := by
 rw [show ((b.length : Int) - 32).toNat = b.length - 32 by omega]; exact List.take_of_length_le X7
def P9 (a b : Xg) : Nat → BitVec 8
 | 0 => 0
 | k + 1 => P9 a b k ||| (a.getD k 0 ^^^ b.getD k 0)
theorem Qmq {a b : Xg} : ∀ k, P9 a b k = 0 → ∀ j, j < k → a.getD j 0 = b.getD j 0 := by
 intro k
 induction k with
 | zero => intro _ j hj; omega
 | succ k ih =>
  intro h j hj
  simp only [P9] at h
  obtain ⟨h1, h2⟩ := BitVec.or_eq_zero_iff.1 h
  rcases Nat.lt_or_ge j k with h3 | h3
  ·exact ih h1 j h3
  have : j = k := by omega
  subst this; exact BitVec.xor_eq_zero_iff.1 h2
theorem Qms (a : Xg) : ∀ k, P9 a a k = 0 := by
 intro k
 induction k with
 | zero => rfl
 | succ k ih => simp [P9, ih]
theorem Qmr {a b : Xg} (h : (a.length : Int) = (b.length : Int)) : (P9 a b a.length == 0#8) = (a == b) := by
 rw [Bool.eq_iff_iff, beq_iff_eq, beq_iff_eq]
 constructor
 ·intro h1
  refine List.ext_getElem oM fun i h2 h3 => ?_
  have := Qmq _ h1 i h2
  simpa [List.getD_eq_getElem?_getD, h2, h3] using this
 rintro rfl; exact Qms _ _
attribute [local irreducible] Xk tK Qeo Vd Wn Wp Rj Qfs Qd3 Jy Yv F7
theorem Qqu (key : Xg) (w0 : World)  (hT : Tabs (Jl w0)) (hk : key.length = 32) : X9 prog 60 #[(agg u8 key)] w0 (fun r w1 => r = (Value.tuple #[(agg u8 (Ws key)), (agg u8 (Ul key))]) ∧ Ext w0 w1) := by
 refine Zb (args := [(agg u8 key)]) func60 rfl ntmps60 results60 rfl ?_
 have m0 : Mem w0 (Qu w0) [] := Mem.of_world w0
 have hkl := Qkx (a := []) (b := key) (p := Kv ⟨#[115, 101, 97, 108]⟩) (n := 2) Jg Jg
 have hk0 : ((Wp [] key (Kv ⟨#[115, 101, 97, 108]⟩) 2).getD 0 []).length = 32 := Qc8 key
 have hk1 : ((Wp [] key (Kv ⟨#[115, 101, 97, 108]⟩) 2).getD 1 []).length = 32 := Qc9 key
 refine sR <| Y9 (Xa (f := u8) (l := key) m0 rfl) fun w1 b1 m1 => Y9 (Zc m1 Zl) fun w2 b2 m2 => Y9 (Zc m2 Zl) fun w3 b3 m3 => ?_
 refine rN (sR ?_)
 refine Qd (Xo (i := 0) (j := 32) Xq Y0 rfl (Zi _ _) (Zi _ _) oM sD sD) <| Vy (oc73 (Hm rfl rfl rfl rfl) (c_keys Yj ([]) (sla b1 0 1 0 32 32) key (⟨#[115, 101, 97, 108]⟩) _ _ (hT.mono fun b o e => (m3).rest b o e) (Rd.nil _ _) sD (Rd.slaAll m3.h2 sD) sD sD sD)) ?_
 rintro _ w4 ⟨vxq5, Hsq5, rfl, gvxq5, k_w4⟩
 have m4 : Mem _ _ (Hsq5 ++ ([_, _, _])) := Mem.new (H := [_, _, _]) (H' := Hsq5) m3 k_w4
 refine Zp (Value.tuple #[vxq5, (i64 (Qfs (2 : Int)))]) <| Qd (v := vxq5) (Zm rfl rfl) <| Qd (v := (i64 (Qfs (2 : Int)))) (Zm rfl rfl) <| Zz vxq5 <| Zz (i64 (Qfs (2 : Int))) ?_
 refine rN (Qa ?_)
 refine Kr Xw ?_
 have m6 := (Mem.pick2 Hsq5 [_, _] [_] _ m4)
 have m7 := (Mem.pick2 [_] Hsq5 [_] _ m6)
 have m8 := (Mem.pick [_, _] Hsq5 _ m7)
 have m9 := (Mem.pick2 Hsq5 [_, _] [_] _ m8)
 have hFM10 : Mem w4 (Qu w0) ([(b2, .cells (cl u8 (List.replicate 32 0)) 23 (0, 0))] ++ (Hsq5 ++ ([(b3, .cells (cl u8 (List.replicate 32 0)) 23 (0, 0)), (b1, .cells (cl u8 key) 23 (0, 0))]))) := m9
 obtain ⟨RM10, hRM10⟩ : ∃ R2, R2 = Rest.add (Qu w0) (Hsq5 ++ ([(b3, .cells (cl u8 (List.replicate 32 0)) 23 (0, 0)), (b1, .cells (cl u8 key) 23 (0, 0))])) := ⟨_, rfl⟩
 have M100 : Mem w4 RM10 [(b2, .cells (cl u8 (List.replicate 32 0)) 23 (0, 0))] := by rw [hRM10]; exact Mem.give hFM10
 have hg11 : RdK RM10.blk (Ug u8) 32 vxq5 (Wp ([]) key (Kv (⟨#[115, 101, 97, 108]⟩)) (2 : Int)) := gvxq5.rdIn (fun p hp => by rw [hRM10]; exact Mem.addOwn hFM10 (List.mem_append_left _ hp))
 have ho12 : RM10.blk b3 = some (.cells (cl u8 (List.replicate 32 0)) 23 (0, 0)) := by rw [hRM10]; exact Mem.addOwn hFM10 (List.mem_append_right _ (List.Mem.head _))
 have ho13 : RM10.blk b1 = some (.cells (cl u8 key) 23 (0, 0)) := by rw [hRM10]; exact Mem.addOwn hFM10 (List.mem_append_right _ (List.Mem.tail _ (List.Mem.head _)))
 have hT14 : Tabs RM10.blk := by rw [hRM10]; exact Tabs.mono hT fun b o e => Mem.addRest hFM10 e
 refine Dl M100 [(0, false), (1, false), (2, false), (3, false), (4, false), (5, false), (6, true)] 7 rfl Xw <| N8 rfl (Yp (v := vxq5) rfl) <| yqH rfl (fun w _H _hx => Jb (i := 0) (RdK.ofRest hg11 _hx) Qcx Zl rfl rfl oM sD) <| yqH (v := (agg u8 ((Wp ([]) key (Kv (⟨#[115, 101, 97, 108]⟩)) (2 : Int)).getD 0 []))) rfl (fun w _H _hx => D9 (i := (0 : Int)) (RdK.ofRest hg11 _hx) sD Xq Zl rfl rfl) <| N8 rfl (Yp (v := vxq5) rfl) <| yqH rfl (fun w _H _hx => Jb (i := 1) (RdK.ofRest hg11 _hx) Qcx Zl rfl rfl oM sD) <| yqH (v := (agg u8 ((Wp ([]) key (Kv (⟨#[115, 101, 97, 108]⟩)) (2 : Int)).getD 1 []))) rfl (fun w _H _hx => D9 (i := (1 : Int)) (RdK.ofRest hg11 _hx) sD Xq Zl rfl rfl) ?_
 refine Qgu rfl (fun w15 e15 => ?_)
 have m15 := M100.ext e15
 refine Vp.mono (Qj (f := u8) (l := (Wp ([]) key (Kv (⟨#[115, 101, 97, 108]⟩)) (2 : Int)).getD 0 []) Qy Zl rfl rfl sD m15.h0 sZ rfl) ?_
 rintro _ w16 uq16
 have m16 := m15.upd0 uq16
 refine ⟨⟨_, m16⟩, ?_⟩
 refine Gs m16 fun w17 m17 => ?_
 have hX18 := m17
 rw [hRM10] at hX18
 have m19 : Mem w17 (Qu w0) ([(b2, .cells (cl u8 ((Wp ([]) key (Kv (⟨#[115, 101, 97, 108]⟩)) (2 : Int)).getD 0 [])) 23 (0, 0))] ++ (Hsq5 ++ ([(b3, .cells (cl u8 (List.replicate 32 0)) 23 (0, 0)), (b1, .cells (cl u8 key) 23 (0, 0))]))) := ymA (Mem.back hFM10 hX18)
 refine Vk (Qj (f := u8) (l := (Wp ([]) key (Kv (⟨#[115, 101, 97, 108]⟩)) (2 : Int)).getD 1 []) Qy Zl rfl rfl sD ((Mem.pick2 [_] Hsq5 [_] _ m19)).h0 sZ rfl) ?_
 rintro _ w20 uq20
 have m20 : Mem _ _ ([_, _] ++ (Hsq5 ++ ([_]))) := Mem.upd0 (Mem.pick2 [_] Hsq5 [_] _ m19) uq20
 refine rN (Xb ?_)
 refine Qv [(agg u8 ((Wp ([]) key (Kv (⟨#[115, 101, 97, 108]⟩)) (2 : Int)).getD 0 [])), (agg u8 ((Wp ([]) key (Kv (⟨#[115, 101, 97, 108]⟩)) (2 : Int)).getD 1 []))] ⟨⟨_, rfl, Xr Xq rfl Zl m20.h1 sZ⟩, ⟨_, rfl, Xr Xq rfl Zl m20.h0 sZ⟩, trivial⟩ ?_
 exact ⟨rfl, m20.toExt⟩
set_option maxHeartbeats 1000000 in
theorem Qab (nz : Xg) (va : Value) (la : Xg) (vc : Value) (lc : Xg) (w0 : World)  (hn : nz.length = 12) (hra : Rd (Jl w0) u8 va la) (hla : la.length ≤ 1000000) (hrc : Rd (Jl w0) u8 vc lc) (hlc : lc.length ≤ 1000000) : X9 prog 62 #[(agg u8 nz), va, vc] w0 (fun r w1 => ∃ Hs, Xe u8 5 r (U1 nz la lc) Hs ∧ Mem w1 (Qu w0) Hs) := by
 refine Zb (args := [(agg u8 nz), va, vc]) func62 rfl ntmps62 results62 rfl ?_
 have m0 : Mem w0 (Qu w0) [] := Mem.of_world w0
 refine sR <| Y9 (Xa (f := u8) (l := nz) m0 rfl) fun w1 b3 m1 => Zz Yj ?_
 refine rN (sR ?_)
 refine Qd (Xo (i := 0) (j := 12) Pj Y0 rfl (Zi _ _) (Zi _ _) oM sD sD) <| Vy (oc34 (Kt rfl) (Qcg (sla b3 0 1 0 12 12) nz _ (Rd.slaAll m1.h0 sD) sD)) ?_
 rintro rq3 w2 ⟨Hsq3, grq3, k_w2⟩
 have m2 : Mem _ _ (Hsq3 ++ ([_])) := Mem.new (H := [_]) (H' := Hsq3) m1 k_w2
 refine Zz rq3 ?_
 refine rN (Qa (sR ?_))
 refine Zz (i64 7) ?_
 refine rN (Qk ?_)
 refine Wx 9 ?_
 refine Zt (Qa (sR ?_))
 refine Zp (i64 7) <| Qd (Ux 7 0) <| rN <| Za rfl Jg ?_
 refine Qs (Qc (Qa (Qk (Qb ?_))))
 refine Zp rq3 <| Zp va <| Qd (Yl (Rd.ofRest hra m2) Zu rfl) <| Qd (Jp ⟨_, Fj⟩ Ym rfl) <| Zp (i64 7) <| Qd (v := (i64 56)) (V7 8 7) <| Qd (Yf (b := 56) rfl rfl oM) <| Qd (Yc ⟨_, Ym⟩ Gl rfl) <| Y9 (Qw u8 [((BitVec.ofInt 64 (la.length : Int)) >>> 56).setWidth 8] Qy m2 Zu Y0 rfl rfl rfl) fun w4 b23 m4 => Vy (Xp (f := u8) (Hs := Hsq3) (H := [_, _]) (Mem.pick [_] Hsq3 _ m4) grq3 rfl rfl (Rd.mkA m4.h0) Zu Zu Y0 rfl Qy sD sD) ?_
 rintro sv5 w5 ⟨Hs5, m5, g5⟩
 replace g5 : Xe u8 5 sv5 (nz ++ ([((BitVec.ofInt 64 (la.length : Int)) >>> 56).setWidth 8])) Hs5 := g5
 refine Zz sv5 ?_
 refine Zv (Qh ?_)
 have m6 := Mem.drop [_] _ (Mem.pick Hs5 [_] _ m5)
 refine Qb <| Zp (i64 7) <| Qd (v := (i64 6)) (Gg 7 1) <| Zz (i64 6) ?_
 refine rN (Zt (Qa (sR ?_)))
 refine Zp (i64 6) <| Qd (Ux 6 0) <| rN <| Za rfl Jg ?_
 refine Qs (Qc (Qa (Qk (Qb ?_))))
 refine Zp sv5 <| Zp va <| Qd (Yl (Rd.ofRest hra m6) Zu rfl) <| Qd (Jp ⟨_, Fj⟩ Ym rfl) <| Zp (i64 6) <| Qd (v := (i64 48)) (V7 8 6) <| Qd (Yf (b := 48) rfl rfl oM) <| Qd (Yc ⟨_, Ym⟩ Gl rfl) <| Y9 (Qw u8 [((BitVec.ofInt 64 (la.length : Int)) >>> 48).setWidth 8] Qy m6 Zu Y0 rfl rfl rfl) fun w7 b23_1 m7 => Vy (Xp (f := u8) (Hs := Hs5) (H := [_, _]) (Mem.pick [_] Hs5 _ m7) g5 rfl rfl (Rd.mkA m7.h0) Zu Zu Y0 rfl Qy sD sD) ?_
 rintro sv8 w8 ⟨Hs8, m8, g8⟩
 replace g8 : Xe u8 5 sv8 ((nz ++ ([((BitVec.ofInt 64 (la.length : Int)) >>> 56).setWidth 8])) ++ ([((BitVec.ofInt 64 (la.length : Int)) >>> 48).setWidth 8])) Hs8 := g8
 refine Zz sv8 ?_
 refine Zv (Qh ?_)
 have m9 := Mem.drop [_] _ (Mem.pick Hs8 [_] _ m8)
 refine Qb <| Zp (i64 6) <| Qd (v := (i64 5)) (Gg 6 1) <| Zz (i64 5) ?_
 refine rN (Zt (Qa (sR ?_)))
 refine Zp (i64 5) <| Qd (Ux 5 0) <| rN <| Za rfl Jg ?_
 refine Qs (Qc (Qa (Qk (Qb ?_))))
 refine Zp sv8 <| Zp va <| Qd (Yl (Rd.ofRest hra m9) Zu rfl) <| Qd (Jp ⟨_, Fj⟩ Ym rfl) <| Zp (i64 5) <| Qd (v := (i64 40)) (V7 8 5) <| Qd (Yf (b := 40) rfl rfl oM) <| Qd (Yc ⟨_, Ym⟩ Gl rfl) <| Y9 (Qw u8 [((BitVec.ofInt 64 (la.length : Int)) >>> 40).setWidth 8] Qy m9 Zu Y0 rfl rfl rfl) fun w10 b23_2 m10 => Vy (Xp (f := u8) (Hs := Hs8) (H := [_, _]) (Mem.pick [_] Hs8 _ m10) g8 rfl rfl (Rd.mkA m10.h0) Zu Zu Y0 rfl Qy sD sD) ?_
 rintro sv11 w11 ⟨Hs11, m11, g11⟩
 replace g11 : Xe u8 5 sv11 (((nz ++ ([((BitVec.ofInt 64 (la.length : Int)) >>> 56).setWidth 8])) ++ ([((BitVec.ofInt 64 (la.length : Int)) >>> 48).setWidth 8])) ++ ([((BitVec.ofInt 64 (la.length : Int)) >>> 40).setWidth 8])) Hs11 := g11
 refine Zz sv11 ?_
 refine Zv (Qh ?_)
 have m12 := Mem.drop [_] _ (Mem.pick Hs11 [_] _ m11)
 refine Qb <| Zp (i64 5) <| Qd (v := (i64 4)) (Gg 5 1) <| Zz (i64 4) ?_
 refine rN (Zt (Qa (sR ?_)))
 refine Zp (i64 4) <| Qd (Ux 4 0) <| rN <| Za rfl Jg ?_
 refine Qs (Qc (Qa (Qk (Qb ?_))))
 refine Zp sv11 <| Zp va <| Qd (Yl (Rd.ofRest hra m12) Zu rfl) <| Qd (Jp ⟨_, Fj⟩ Ym rfl) <| Zp (i64 4) <| Qd (v := (i64 32)) (V7 8 4) <| Qd (Yf (b := 32) rfl rfl oM) <| Qd (Yc ⟨_, Ym⟩ Gl rfl) <| Y9 (Qw u8 [((BitVec.ofInt 64 (la.length : Int)) >>> 32).setWidth 8] Qy m12 Zu Y0 rfl rfl rfl) fun w13 b23_3 m13 => Vy (Xp (f := u8) (Hs := Hs11) (H := [_, _]) (Mem.pick [_] Hs11 _ m13) g11 rfl rfl (Rd.mkA m13.h0) Zu Zu Y0 rfl Qy sD sD) ?_
 rintro sv14 w14 ⟨Hs14, m14, g14⟩
 replace g14 : Xe u8 5 sv14 ((((nz ++ ([((BitVec.ofInt 64 (la.length : Int)) >>> 56).setWidth 8])) ++ ([((BitVec.ofInt 64 (la.length : Int)) >>> 48).setWidth 8])) ++ ([((BitVec.ofInt 64 (la.length : Int)) >>> 40).setWidth 8])) ++ ([((BitVec.ofInt 64 (la.length : Int)) >>> 32).setWidth 8])) Hs14 := g14
 refine Zz sv14 ?_
 refine Zv (Qh ?_)
 have m15 := Mem.drop [_] _ (Mem.pick Hs14 [_] _ m14)
 refine Qb <| Zp (i64 4) <| Qd (v := (i64 3)) (Gg 4 1) <| Zz (i64 3) ?_
 refine rN (Zt (Qa (sR ?_)))
 refine Zp (i64 3) <| Qd (Ux 3 0) <| rN <| Za rfl Jg ?_
 refine Qs (Qc (Qa (Qk (Qb ?_))))
 refine Zp sv14 <| Zp va <| Qd (Yl (Rd.ofRest hra m15) Zu rfl) <| Qd (Jp ⟨_, Fj⟩ Ym rfl) <| Zp (i64 3) <| Qd (v := (i64 24)) (V7 8 3) <| Qd (Yf (b := 24) rfl rfl oM) <| Qd (Yc ⟨_, Ym⟩ Gl rfl) <| Y9 (Qw u8 [((BitVec.ofInt 64 (la.length : Int)) >>> 24).setWidth 8] Qy m15 Zu Y0 rfl rfl rfl) fun w16 b23_4 m16 => Vy (Xp (f := u8) (Hs := Hs14) (H := [_, _]) (Mem.pick [_] Hs14 _ m16) g14 rfl rfl (Rd.mkA m16.h0) Zu Zu Y0 rfl Qy sD sD) ?_
 rintro sv17 w17 ⟨Hs17, m17, g17⟩
 replace g17 : Xe u8 5 sv17 (((((nz ++ ([((BitVec.ofInt 64 (la.length : Int)) >>> 56).setWidth 8])) ++ ([((BitVec.ofInt 64 (la.length : Int)) >>> 48).setWidth 8])) ++ ([((BitVec.ofInt 64 (la.length : Int)) >>> 40).setWidth 8])) ++ ([((BitVec.ofInt 64 (la.length : Int)) >>> 32).setWidth 8])) ++ ([((BitVec.ofInt 64 (la.length : Int)) >>> 24).setWidth 8])) Hs17 := g17
 refine Zz sv17 ?_
 refine Zv (Qh ?_)
 have m18 := Mem.drop [_] _ (Mem.pick Hs17 [_] _ m17)
 refine CW.abs (fun g => g 0 = (agg u8 nz) ∧ g 1 = va ∧ g 2 = vc ∧ g 3 = (ptr b3 0) ∧ g 6 = Yj ∧ g 7 = sv17 ∧ g 8 = (i64 3) ∧ g 12 = (bl true) ∧ True) ⟨rfl, rfl, rfl, rfl, rfl, rfl, rfl, rfl, trivial⟩ ?_
 rintro fr19 ⟨s0, s1, s2, s3, s6, s7, s8, s12, _⟩
 refine Qb <| Ya s8 <| Qd (v := (i64 2)) (Gg 3 1) <| Zz (i64 2) ?_
 refine rN (Zt (Qa (sR ?_)))
 refine Zp (i64 2) <| Qd (Ux 2 0) <| rN <| Za rfl Jg ?_
 refine Qs (Qc (Qa (Qk (Qb ?_))))
 refine Ya s7 <| Ya s1 <| Qd (Yl (Rd.ofRest hra m18) Zu rfl) <| Qd (Jp ⟨_, Fj⟩ Ym rfl) <| Zp (i64 2) <| Qd (v := (i64 16)) (V7 8 2) <| Qd (Yf (b := 16) rfl rfl oM) <| Qd (Yc ⟨_, Ym⟩ Gl rfl) <| Y9 (Qw u8 [((BitVec.ofInt 64 (la.length : Int)) >>> 16).setWidth 8] Qy m18 Zu Y0 rfl rfl rfl) fun w20 b23_5 m20 => Vy (Xp (f := u8) (Hs := Hs17) (H := [_, _]) (Mem.pick [_] Hs17 _ m20) g17 rfl rfl (Rd.mkA m20.h0) Zu Zu Y0 rfl Qy sD sD) ?_
 rintro sv21 w21 ⟨Hs21, m21, g21⟩
 replace g21 : Xe u8 5 sv21 ((((((nz ++ ([((BitVec.ofInt 64 (la.length : Int)) >>> 56).setWidth 8])) ++ ([((BitVec.ofInt 64 (la.length : Int)) >>> 48).setWidth 8])) ++ ([((BitVec.ofInt 64 (la.length : Int)) >>> 40).setWidth 8])) ++ ([((BitVec.ofInt 64 (la.length : Int)) >>> 32).setWidth 8])) ++ ([((BitVec.ofInt 64 (la.length : Int)) >>> 24).setWidth 8])) ++ ([((BitVec.ofInt 64 (la.length : Int)) >>> 16).setWidth 8])) Hs21 := g21
 refine Zz sv21 ?_
 refine Zv (Qh ?_)
 have m22 := Mem.drop [_] _ (Mem.pick Hs21 [_] _ m21)
 refine Qb <| Zp (i64 2) <| Qd (v := (i64 1)) (Gg 2 1) <| Zz (i64 1) ?_
 refine rN (Zt (Qa (sR ?_)))
 refine Zp (i64 1) <| Qd (Ux 1 0) <| rN <| Za rfl Jg ?_
 refine Qs (Qc (Qa (Qk (Qb ?_))))
 refine Zp sv21 <| Ya s1 <| Qd (Yl (Rd.ofRest hra m22) Zu rfl) <| Qd (Jp ⟨_, Fj⟩ Ym rfl) <| Zp (i64 1) <| Qd (v := (i64 8)) (V7 8 1) <| Qd (Yf (b := 8) rfl rfl oM) <| Qd (Yc ⟨_, Ym⟩ Gl rfl) <| Y9 (Qw u8 [((BitVec.ofInt 64 (la.length : Int)) >>> 8).setWidth 8] Qy m22 Zu Y0 rfl rfl rfl) fun w23 b23_6 m23 => Vy (Xp (f := u8) (Hs := Hs21) (H := [_, _]) (Mem.pick [_] Hs21 _ m23) g21 rfl rfl (Rd.mkA m23.h0) Zu Zu Y0 rfl Qy sD sD) ?_
 rintro sv24 w24 ⟨Hs24, m24, g24⟩
 replace g24 : Xe u8 5 sv24 (((((((nz ++ ([((BitVec.ofInt 64 (la.length : Int)) >>> 56).setWidth 8])) ++ ([((BitVec.ofInt 64 (la.length : Int)) >>> 48).setWidth 8])) ++ ([((BitVec.ofInt 64 (la.length : Int)) >>> 40).setWidth 8])) ++ ([((BitVec.ofInt 64 (la.length : Int)) >>> 32).setWidth 8])) ++ ([((BitVec.ofInt 64 (la.length : Int)) >>> 24).setWidth 8])) ++ ([((BitVec.ofInt 64 (la.length : Int)) >>> 16).setWidth 8])) ++ ([((BitVec.ofInt 64 (la.length : Int)) >>> 8).setWidth 8])) Hs24 := g24
 refine Zz sv24 ?_
 refine Zv (Qh ?_)
 have m25 := Mem.drop [_] _ (Mem.pick Hs24 [_] _ m24)
 refine Qb <| Zp (i64 1) <| Qd (v := (i64 0)) (Gg 1 1) <| Zz (i64 0) ?_
 refine rN (Zt (Qa (sR ?_)))
 refine Zp (i64 0) <| Qd (Ux 0 0) <| rN <| Za rfl Jg ?_
 refine Qs (Qc (Qa (Qk (Qb ?_))))
 refine Zp sv24 <| Ya s1 <| Qd (Yl (Rd.ofRest hra m25) Zu rfl) <| Qd (Jp ⟨_, Fj⟩ Ym rfl) <| Zp (i64 0) <| Qd (v := (i64 0)) (V7 8 0) <| Qd (Yf (b := 0) rfl rfl oM) <| Qd (Yc ⟨_, Ym⟩ Gl rfl) <| Y9 (Qw u8 [((BitVec.ofInt 64 (la.length : Int)) >>> 0).setWidth 8] Qy m25 Zu Y0 rfl rfl rfl) fun w26 b23_7 m26 => Vy (Xp (f := u8) (Hs := Hs24) (H := [_, _]) (Mem.pick [_] Hs24 _ m26) g24 rfl rfl (Rd.mkA m26.h0) Zu Zu Y0 rfl Qy sD sD) ?_
 rintro sv27 w27 ⟨Hs27, m27, g27⟩
 replace g27 : Xe u8 5 sv27 ((((((((nz ++ ([((BitVec.ofInt 64 (la.length : Int)) >>> 56).setWidth 8])) ++ ([((BitVec.ofInt 64 (la.length : Int)) >>> 48).setWidth 8])) ++ ([((BitVec.ofInt 64 (la.length : Int)) >>> 40).setWidth 8])) ++ ([((BitVec.ofInt 64 (la.length : Int)) >>> 32).setWidth 8])) ++ ([((BitVec.ofInt 64 (la.length : Int)) >>> 24).setWidth 8])) ++ ([((BitVec.ofInt 64 (la.length : Int)) >>> 16).setWidth 8])) ++ ([((BitVec.ofInt 64 (la.length : Int)) >>> 8).setWidth 8])) ++ ([((BitVec.ofInt 64 (la.length : Int)) >>> 0).setWidth 8])) Hs27 := g27
 refine Zz sv27 ?_
 refine Zv (Qh ?_)
 have m28 := Mem.drop [_] _ (Mem.pick Hs27 [_] _ m27)
 refine Qb <| Zp (i64 0) <| Qd (v := (i64 (-1))) (Gg 0 1) <| Zz (i64 (-1)) ?_
 refine rN (Zt (Qa (sR ?_)))
 refine Zp (i64 (-1)) <| Qd (Ux (-1) 0) <| rN <| Yy rfl Jg <| X6 ?_
 refine Qm (Qm (Xi ?_))
 refine sR <| Zp sv27 <| Ya s1 <| Vy (Xp (f := u8) (Hs := Hs27) (H := [_]) m28 g27 rfl rfl (Rd.ofRest hra m28) Zu Zu Y0 rfl Qy sD sD) ?_
 rintro sv29 w29 ⟨Hs29, m29, g29⟩
 replace g29 : Xe u8 5 sv29 (((((((((nz ++ ([((BitVec.ofInt 64 (la.length : Int)) >>> 56).setWidth 8])) ++ ([((BitVec.ofInt 64 (la.length : Int)) >>> 48).setWidth 8])) ++ ([((BitVec.ofInt 64 (la.length : Int)) >>> 40).setWidth 8])) ++ ([((BitVec.ofInt 64 (la.length : Int)) >>> 32).setWidth 8])) ++ ([((BitVec.ofInt 64 (la.length : Int)) >>> 24).setWidth 8])) ++ ([((BitVec.ofInt 64 (la.length : Int)) >>> 16).setWidth 8])) ++ ([((BitVec.ofInt 64 (la.length : Int)) >>> 8).setWidth 8])) ++ ([((BitVec.ofInt 64 (la.length : Int)) >>> 0).setWidth 8])) ++ la) Hs29 := g29
 refine Ya s2 <| Vy (Xp (f := u8) (Hs := Hs29) (H := [_]) m29 g29 rfl rfl (Rd.ofRest hrc m29) Zu Zu Y0 rfl Qy sD sD) ?_
 rintro sv30 w30 ⟨Hs30, m30, g30⟩
 replace g30 : Xe u8 5 sv30 ((((((((((nz ++ ([((BitVec.ofInt 64 (la.length : Int)) >>> 56).setWidth 8])) ++ ([((BitVec.ofInt 64 (la.length : Int)) >>> 48).setWidth 8])) ++ ([((BitVec.ofInt 64 (la.length : Int)) >>> 40).setWidth 8])) ++ ([((BitVec.ofInt 64 (la.length : Int)) >>> 32).setWidth 8])) ++ ([((BitVec.ofInt 64 (la.length : Int)) >>> 24).setWidth 8])) ++ ([((BitVec.ofInt 64 (la.length : Int)) >>> 16).setWidth 8])) ++ ([((BitVec.ofInt 64 (la.length : Int)) >>> 8).setWidth 8])) ++ ([((BitVec.ofInt 64 (la.length : Int)) >>> 0).setWidth 8])) ++ la) ++ lc) Hs30 := g30
 refine Zz sv30 ?_
 refine rN (Xb ?_)
 refine Qv [sv30] ⟨rfl, trivial⟩ ?_
 have m31 := Mem.drop [_] _ (Mem.pick Hs30 [_] _ m30)
 have hfin : (((((((((nz ++ ([((BitVec.ofInt 64 (la.length : Int)) >>> 56).setWidth 8])) ++ ([((BitVec.ofInt 64 (la.length : Int)) >>> 48).setWidth 8])) ++ ([((BitVec.ofInt 64 (la.length : Int)) >>> 40).setWidth 8])) ++ ([((BitVec.ofInt 64 (la.length : Int)) >>> 32).setWidth 8])) ++ ([((BitVec.ofInt 64 (la.length : Int)) >>> 24).setWidth 8])) ++ ([((BitVec.ofInt 64 (la.length : Int)) >>> 16).setWidth 8])) ++ ([((BitVec.ofInt 64 (la.length : Int)) >>> 8).setWidth 8])) ++ ([((BitVec.ofInt 64 (la.length : Int)) >>> 0).setWidth 8])) ++ la) ++ lc = U1 nz la lc := by simp [U1, len8]
 exact ⟨Hs30, hfin ▸ g30, by simpa using m31⟩
set_option maxHeartbeats 1000000 in
theorem Qjq (nz : Xg) (va : Value) (la : Xg) (vc : Value) (lc : Xg) (w0 : World)  (hn : nz.length = 12) (hra : Rd (Jl w0) u8 va la) (hla : la.length ≤ 1000000) (hrc : Rd (Jl w0) u8 vc lc) (hlc : lc.length ≤ 1000000) : X9 prog 72 #[(agg u8 nz), va, vc] w0 (fun r w1 => ∃ Hs, Xe u8 5 r (U1 nz la lc) Hs ∧ Mem w1 (Qu w0) Hs) := by
 refine Zb (args := [(agg u8 nz), va, vc]) func72 rfl ntmps72 results72 rfl ?_
 have m0 : Mem w0 (Qu w0) [] := Mem.of_world w0
 refine sR <| Y9 (Xa (f := u8) (l := nz) m0 rfl) fun w1 b3 m1 => Zz Yj ?_
 refine rN (sR ?_)
 refine Y9 (Qw u8 [] Qy m1 Zu Y0 rfl (by simp [Ac]) rfl) fun w2 b9 m2 => Qd (Xo (i := 0) (j := 12) Pj Y0 rfl (Zi _ _) (Zi _ _) oM sD sD) <| Vy (Xp (f := u8) (Hs := [(b9, .cells (cl u8 ([])) 5 (0, 0))]) (H := [_]) m2 (Xe.of u8 5 b9 ([])) rfl rfl (Rd.slaAll m2.h1 sD) Zu Zu Y0 rfl Qy sD sD) ?_
 rintro sv3 w3 ⟨Hs3, m3, g3⟩
 replace g3 : Xe u8 5 sv3 nz Hs3 := g3
 refine Zz sv3 ?_
 refine rN (Qa (sR ?_))
 refine Zz (i64 7) ?_
 refine rN (Qk ?_)
 refine Wx 9 ?_
 refine Zt (Qa (sR ?_))
 refine Zp (i64 7) <| Qd (Ux 7 0) <| rN <| Za rfl Jg ?_
 refine Qs (Qc (Qa (Qk (Qb ?_))))
 refine Zp sv3 <| Zp va <| Qd (Yl (Rd.ofRest hra m3) Zu rfl) <| Qd (Jp ⟨_, Fj⟩ Ym rfl) <| Zp (i64 7) <| Qd (v := (i64 56)) (V7 8 7) <| Qd (Yf (b := 56) rfl rfl oM) <| Qd (Yc ⟨_, Ym⟩ Gl rfl) <| Y9 (Qw u8 [((BitVec.ofInt 64 (la.length : Int)) >>> 56).setWidth 8] Qy m3 Zu Y0 rfl rfl rfl) fun w4 b24 m4 => Vy (Xp (f := u8) (Hs := Hs3) (H := [_, _]) (Mem.pick [_] Hs3 _ m4) g3 rfl rfl (Rd.mkA m4.h0) Zu Zu Y0 rfl Qy sD sD) ?_
 rintro sv5 w5 ⟨Hs5, m5, g5⟩
 replace g5 : Xe u8 5 sv5 (nz ++ ([((BitVec.ofInt 64 (la.length : Int)) >>> 56).setWidth 8])) Hs5 := g5
 refine Zz sv5 ?_
 refine Zv (Qh ?_)
 have m6 := Mem.drop [_] _ (Mem.pick Hs5 [_] _ m5)
 refine Qb <| Zp (i64 7) <| Qd (v := (i64 6)) (Gg 7 1) <| Zz (i64 6) ?_
 refine rN (Zt (Qa (sR ?_)))
 refine Zp (i64 6) <| Qd (Ux 6 0) <| rN <| Za rfl Jg ?_
 refine Qs (Qc (Qa (Qk (Qb ?_))))
 refine Zp sv5 <| Zp va <| Qd (Yl (Rd.ofRest hra m6) Zu rfl) <| Qd (Jp ⟨_, Fj⟩ Ym rfl) <| Zp (i64 6) <| Qd (v := (i64 48)) (V7 8 6) <| Qd (Yf (b := 48) rfl rfl oM) <| Qd (Yc ⟨_, Ym⟩ Gl rfl) <| Y9 (Qw u8 [((BitVec.ofInt 64 (la.length : Int)) >>> 48).setWidth 8] Qy m6 Zu Y0 rfl rfl rfl) fun w7 b24_1 m7 => Vy (Xp (f := u8) (Hs := Hs5) (H := [_, _]) (Mem.pick [_] Hs5 _ m7) g5 rfl rfl (Rd.mkA m7.h0) Zu Zu Y0 rfl Qy sD sD) ?_
 rintro sv8 w8 ⟨Hs8, m8, g8⟩
 replace g8 : Xe u8 5 sv8 ((nz ++ ([((BitVec.ofInt 64 (la.length : Int)) >>> 56).setWidth 8])) ++ ([((BitVec.ofInt 64 (la.length : Int)) >>> 48).setWidth 8])) Hs8 := g8
 refine Zz sv8 ?_
 refine Zv (Qh ?_)
 have m9 := Mem.drop [_] _ (Mem.pick Hs8 [_] _ m8)
 refine Qb <| Zp (i64 6) <| Qd (v := (i64 5)) (Gg 6 1) <| Zz (i64 5) ?_
 refine rN (Zt (Qa (sR ?_)))
 refine Zp (i64 5) <| Qd (Ux 5 0) <| rN <| Za rfl Jg ?_
 refine Qs (Qc (Qa (Qk (Qb ?_))))
 refine Zp sv8 <| Zp va <| Qd (Yl (Rd.ofRest hra m9) Zu rfl) <| Qd (Jp ⟨_, Fj⟩ Ym rfl) <| Zp (i64 5) <| Qd (v := (i64 40)) (V7 8 5) <| Qd (Yf (b := 40) rfl rfl oM) <| Qd (Yc ⟨_, Ym⟩ Gl rfl) <| Y9 (Qw u8 [((BitVec.ofInt 64 (la.length : Int)) >>> 40).setWidth 8] Qy m9 Zu Y0 rfl rfl rfl) fun w10 b24_2 m10 => Vy (Xp (f := u8) (Hs := Hs8) (H := [_, _]) (Mem.pick [_] Hs8 _ m10) g8 rfl rfl (Rd.mkA m10.h0) Zu Zu Y0 rfl Qy sD sD) ?_
 rintro sv11 w11 ⟨Hs11, m11, g11⟩
 replace g11 : Xe u8 5 sv11 (((nz ++ ([((BitVec.ofInt 64 (la.length : Int)) >>> 56).setWidth 8])) ++ ([((BitVec.ofInt 64 (la.length : Int)) >>> 48).setWidth 8])) ++ ([((BitVec.ofInt 64 (la.length : Int)) >>> 40).setWidth 8])) Hs11 := g11
 refine Zz sv11 ?_
 refine Zv (Qh ?_)
 have m12 := Mem.drop [_] _ (Mem.pick Hs11 [_] _ m11)
 refine Qb <| Zp (i64 5) <| Qd (v := (i64 4)) (Gg 5 1) <| Zz (i64 4) ?_
 refine rN (Zt (Qa (sR ?_)))
 refine Zp (i64 4) <| Qd (Ux 4 0) <| rN <| Za rfl Jg ?_
 refine Qs (Qc (Qa (Qk (Qb ?_))))
 refine Zp sv11 <| Zp va <| Qd (Yl (Rd.ofRest hra m12) Zu rfl) <| Qd (Jp ⟨_, Fj⟩ Ym rfl) <| Zp (i64 4) <| Qd (v := (i64 32)) (V7 8 4) <| Qd (Yf (b := 32) rfl rfl oM) <| Qd (Yc ⟨_, Ym⟩ Gl rfl) <| Y9 (Qw u8 [((BitVec.ofInt 64 (la.length : Int)) >>> 32).setWidth 8] Qy m12 Zu Y0 rfl rfl rfl) fun w13 b24_3 m13 => Vy (Xp (f := u8) (Hs := Hs11) (H := [_, _]) (Mem.pick [_] Hs11 _ m13) g11 rfl rfl (Rd.mkA m13.h0) Zu Zu Y0 rfl Qy sD sD) ?_
 rintro sv14 w14 ⟨Hs14, m14, g14⟩
 replace g14 : Xe u8 5 sv14 ((((nz ++ ([((BitVec.ofInt 64 (la.length : Int)) >>> 56).setWidth 8])) ++ ([((BitVec.ofInt 64 (la.length : Int)) >>> 48).setWidth 8])) ++ ([((BitVec.ofInt 64 (la.length : Int)) >>> 40).setWidth 8])) ++ ([((BitVec.ofInt 64 (la.length : Int)) >>> 32).setWidth 8])) Hs14 := g14
 refine Zz sv14 ?_
 refine Zv (Qh ?_)
 have m15 := Mem.drop [_] _ (Mem.pick Hs14 [_] _ m14)
 refine Qb <| Zp (i64 4) <| Qd (v := (i64 3)) (Gg 4 1) <| Zz (i64 3) ?_
 refine rN (Zt (Qa (sR ?_)))
 refine Zp (i64 3) <| Qd (Ux 3 0) <| rN <| Za rfl Jg ?_
 refine Qs (Qc (Qa (Qk (Qb ?_))))
 refine Zp sv14 <| Zp va <| Qd (Yl (Rd.ofRest hra m15) Zu rfl) <| Qd (Jp ⟨_, Fj⟩ Ym rfl) <| Zp (i64 3) <| Qd (v := (i64 24)) (V7 8 3) <| Qd (Yf (b := 24) rfl rfl oM) <| Qd (Yc ⟨_, Ym⟩ Gl rfl) <| Y9 (Qw u8 [((BitVec.ofInt 64 (la.length : Int)) >>> 24).setWidth 8] Qy m15 Zu Y0 rfl rfl rfl) fun w16 b24_4 m16 => Vy (Xp (f := u8) (Hs := Hs14) (H := [_, _]) (Mem.pick [_] Hs14 _ m16) g14 rfl rfl (Rd.mkA m16.h0) Zu Zu Y0 rfl Qy sD sD) ?_
 rintro sv17 w17 ⟨Hs17, m17, g17⟩
 replace g17 : Xe u8 5 sv17 (((((nz ++ ([((BitVec.ofInt 64 (la.length : Int)) >>> 56).setWidth 8])) ++ ([((BitVec.ofInt 64 (la.length : Int)) >>> 48).setWidth 8])) ++ ([((BitVec.ofInt 64 (la.length : Int)) >>> 40).setWidth 8])) ++ ([((BitVec.ofInt 64 (la.length : Int)) >>> 32).setWidth 8])) ++ ([((BitVec.ofInt 64 (la.length : Int)) >>> 24).setWidth 8])) Hs17 := g17
 refine Zz sv17 ?_
 refine Zv (Qh ?_)
 have m18 := Mem.drop [_] _ (Mem.pick Hs17 [_] _ m17)
 refine CW.abs (fun g => g 0 = (agg u8 nz) ∧ g 1 = va ∧ g 2 = vc ∧ g 3 = (ptr b3 0) ∧ g 6 = Yj ∧ g 7 = sv17 ∧ g 8 = (i64 3) ∧ g 13 = (bl true) ∧ True) ⟨rfl, rfl, rfl, rfl, rfl, rfl, rfl, rfl, trivial⟩ ?_
 rintro fr19 ⟨s0, s1, s2, s3, s6, s7, s8, s13, _⟩
 refine Qb <| Ya s8 <| Qd (v := (i64 2)) (Gg 3 1) <| Zz (i64 2) ?_
 refine rN (Zt (Qa (sR ?_)))
 refine Zp (i64 2) <| Qd (Ux 2 0) <| rN <| Za rfl Jg ?_
 refine Qs (Qc (Qa (Qk (Qb ?_))))
 refine Ya s7 <| Ya s1 <| Qd (Yl (Rd.ofRest hra m18) Zu rfl) <| Qd (Jp ⟨_, Fj⟩ Ym rfl) <| Zp (i64 2) <| Qd (v := (i64 16)) (V7 8 2) <| Qd (Yf (b := 16) rfl rfl oM) <| Qd (Yc ⟨_, Ym⟩ Gl rfl) <| Y9 (Qw u8 [((BitVec.ofInt 64 (la.length : Int)) >>> 16).setWidth 8] Qy m18 Zu Y0 rfl rfl rfl) fun w20 b24_5 m20 => Vy (Xp (f := u8) (Hs := Hs17) (H := [_, _]) (Mem.pick [_] Hs17 _ m20) g17 rfl rfl (Rd.mkA m20.h0) Zu Zu Y0 rfl Qy sD sD) ?_
 rintro sv21 w21 ⟨Hs21, m21, g21⟩
 replace g21 : Xe u8 5 sv21 ((((((nz ++ ([((BitVec.ofInt 64 (la.length : Int)) >>> 56).setWidth 8])) ++ ([((BitVec.ofInt 64 (la.length : Int)) >>> 48).setWidth 8])) ++ ([((BitVec.ofInt 64 (la.length : Int)) >>> 40).setWidth 8])) ++ ([((BitVec.ofInt 64 (la.length : Int)) >>> 32).setWidth 8])) ++ ([((BitVec.ofInt 64 (la.length : Int)) >>> 24).setWidth 8])) ++ ([((BitVec.ofInt 64 (la.length : Int)) >>> 16).setWidth 8])) Hs21 := g21
 refine Zz sv21 ?_
 refine Zv (Qh ?_)
 have m22 := Mem.drop [_] _ (Mem.pick Hs21 [_] _ m21)
 refine Qb <| Zp (i64 2) <| Qd (v := (i64 1)) (Gg 2 1) <| Zz (i64 1) ?_
 refine rN (Zt (Qa (sR ?_)))
 refine Zp (i64 1) <| Qd (Ux 1 0) <| rN <| Za rfl Jg ?_
 refine Qs (Qc (Qa (Qk (Qb ?_))))
 refine Zp sv21 <| Ya s1 <| Qd (Yl (Rd.ofRest hra m22) Zu rfl) <| Qd (Jp ⟨_, Fj⟩ Ym rfl) <| Zp (i64 1) <| Qd (v := (i64 8)) (V7 8 1) <| Qd (Yf (b := 8) rfl rfl oM) <| Qd (Yc ⟨_, Ym⟩ Gl rfl) <| Y9 (Qw u8 [((BitVec.ofInt 64 (la.length : Int)) >>> 8).setWidth 8] Qy m22 Zu Y0 rfl rfl rfl) fun w23 b24_6 m23 => Vy (Xp (f := u8) (Hs := Hs21) (H := [_, _]) (Mem.pick [_] Hs21 _ m23) g21 rfl rfl (Rd.mkA m23.h0) Zu Zu Y0 rfl Qy sD sD) ?_
 rintro sv24 w24 ⟨Hs24, m24, g24⟩
 replace g24 : Xe u8 5 sv24 (((((((nz ++ ([((BitVec.ofInt 64 (la.length : Int)) >>> 56).setWidth 8])) ++ ([((BitVec.ofInt 64 (la.length : Int)) >>> 48).setWidth 8])) ++ ([((BitVec.ofInt 64 (la.length : Int)) >>> 40).setWidth 8])) ++ ([((BitVec.ofInt 64 (la.length : Int)) >>> 32).setWidth 8])) ++ ([((BitVec.ofInt 64 (la.length : Int)) >>> 24).setWidth 8])) ++ ([((BitVec.ofInt 64 (la.length : Int)) >>> 16).setWidth 8])) ++ ([((BitVec.ofInt 64 (la.length : Int)) >>> 8).setWidth 8])) Hs24 := g24
 refine Zz sv24 ?_
 refine Zv (Qh ?_)
 have m25 := Mem.drop [_] _ (Mem.pick Hs24 [_] _ m24)
 refine Qb <| Zp (i64 1) <| Qd (v := (i64 0)) (Gg 1 1) <| Zz (i64 0) ?_
 refine rN (Zt (Qa (sR ?_)))
 refine Zp (i64 0) <| Qd (Ux 0 0) <| rN <| Za rfl Jg ?_
 refine Qs (Qc (Qa (Qk (Qb ?_))))
 refine Zp sv24 <| Ya s1 <| Qd (Yl (Rd.ofRest hra m25) Zu rfl) <| Qd (Jp ⟨_, Fj⟩ Ym rfl) <| Zp (i64 0) <| Qd (v := (i64 0)) (V7 8 0) <| Qd (Yf (b := 0) rfl rfl oM) <| Qd (Yc ⟨_, Ym⟩ Gl rfl) <| Y9 (Qw u8 [((BitVec.ofInt 64 (la.length : Int)) >>> 0).setWidth 8] Qy m25 Zu Y0 rfl rfl rfl) fun w26 b24_7 m26 => Vy (Xp (f := u8) (Hs := Hs24) (H := [_, _]) (Mem.pick [_] Hs24 _ m26) g24 rfl rfl (Rd.mkA m26.h0) Zu Zu Y0 rfl Qy sD sD) ?_
 rintro sv27 w27 ⟨Hs27, m27, g27⟩
 replace g27 : Xe u8 5 sv27 ((((((((nz ++ ([((BitVec.ofInt 64 (la.length : Int)) >>> 56).setWidth 8])) ++ ([((BitVec.ofInt 64 (la.length : Int)) >>> 48).setWidth 8])) ++ ([((BitVec.ofInt 64 (la.length : Int)) >>> 40).setWidth 8])) ++ ([((BitVec.ofInt 64 (la.length : Int)) >>> 32).setWidth 8])) ++ ([((BitVec.ofInt 64 (la.length : Int)) >>> 24).setWidth 8])) ++ ([((BitVec.ofInt 64 (la.length : Int)) >>> 16).setWidth 8])) ++ ([((BitVec.ofInt 64 (la.length : Int)) >>> 8).setWidth 8])) ++ ([((BitVec.ofInt 64 (la.length : Int)) >>> 0).setWidth 8])) Hs27 := g27
 refine Zz sv27 ?_
 refine Zv (Qh ?_)
 have m28 := Mem.drop [_] _ (Mem.pick Hs27 [_] _ m27)
 refine Qb <| Zp (i64 0) <| Qd (v := (i64 (-1))) (Gg 0 1) <| Zz (i64 (-1)) ?_
 refine rN (Zt (Qa (sR ?_)))
 refine Zp (i64 (-1)) <| Qd (Ux (-1) 0) <| rN <| Yy rfl Jg <| X6 ?_
 refine Qm (Qm (Xi ?_))
 refine sR <| Zp sv27 <| Ya s1 <| Vy (Xp (f := u8) (Hs := Hs27) (H := [_]) m28 g27 rfl rfl (Rd.ofRest hra m28) Zu Zu Y0 rfl Qy sD sD) ?_
 rintro sv29 w29 ⟨Hs29, m29, g29⟩
 replace g29 : Xe u8 5 sv29 (((((((((nz ++ ([((BitVec.ofInt 64 (la.length : Int)) >>> 56).setWidth 8])) ++ ([((BitVec.ofInt 64 (la.length : Int)) >>> 48).setWidth 8])) ++ ([((BitVec.ofInt 64 (la.length : Int)) >>> 40).setWidth 8])) ++ ([((BitVec.ofInt 64 (la.length : Int)) >>> 32).setWidth 8])) ++ ([((BitVec.ofInt 64 (la.length : Int)) >>> 24).setWidth 8])) ++ ([((BitVec.ofInt 64 (la.length : Int)) >>> 16).setWidth 8])) ++ ([((BitVec.ofInt 64 (la.length : Int)) >>> 8).setWidth 8])) ++ ([((BitVec.ofInt 64 (la.length : Int)) >>> 0).setWidth 8])) ++ la) Hs29 := g29
 refine Zz sv29 ?_
 refine rN (sR ?_)
 refine Zp sv29 <| Ya s2 <| Vy (Xp (f := u8) (Hs := Hs29) (H := [_]) m29 g29 rfl rfl (Rd.ofRest hrc m29) Zu Zu Y0 rfl Qy sD sD) ?_
 rintro sv30 w30 ⟨Hs30, m30, g30⟩
 replace g30 : Xe u8 5 sv30 ((((((((((nz ++ ([((BitVec.ofInt 64 (la.length : Int)) >>> 56).setWidth 8])) ++ ([((BitVec.ofInt 64 (la.length : Int)) >>> 48).setWidth 8])) ++ ([((BitVec.ofInt 64 (la.length : Int)) >>> 40).setWidth 8])) ++ ([((BitVec.ofInt 64 (la.length : Int)) >>> 32).setWidth 8])) ++ ([((BitVec.ofInt 64 (la.length : Int)) >>> 24).setWidth 8])) ++ ([((BitVec.ofInt 64 (la.length : Int)) >>> 16).setWidth 8])) ++ ([((BitVec.ofInt 64 (la.length : Int)) >>> 8).setWidth 8])) ++ ([((BitVec.ofInt 64 (la.length : Int)) >>> 0).setWidth 8])) ++ la) ++ lc) Hs30 := g30
 refine Zz sv30 ?_
 refine rN (Xb ?_)
 refine Qv [sv30] ⟨rfl, trivial⟩ ?_
 have m31 := Mem.drop [_] _ (Mem.pick Hs30 [_] _ m30)
 have hfin : (((((((((nz ++ ([((BitVec.ofInt 64 (la.length : Int)) >>> 56).setWidth 8])) ++ ([((BitVec.ofInt 64 (la.length : Int)) >>> 48).setWidth 8])) ++ ([((BitVec.ofInt 64 (la.length : Int)) >>> 40).setWidth 8])) ++ ([((BitVec.ofInt 64 (la.length : Int)) >>> 32).setWidth 8])) ++ ([((BitVec.ofInt 64 (la.length : Int)) >>> 24).setWidth 8])) ++ ([((BitVec.ofInt 64 (la.length : Int)) >>> 16).setWidth 8])) ++ ([((BitVec.ofInt 64 (la.length : Int)) >>> 8).setWidth 8])) ++ ([((BitVec.ofInt 64 (la.length : Int)) >>> 0).setWidth 8])) ++ la) ++ lc = U1 nz la lc := by simp [U1, len8]
 exact ⟨Hs30, hfin ▸ g30, by simpa using m31⟩
end Go.Proofs.YtkmiemlpfkfiiaaDoor
