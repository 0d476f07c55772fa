/- Contracts: the seal, first part. Conditions: none beyond those that each theorem states. -/
import Derived.Test.YtkmiemlpfkfiiaaDoorKd3
import Derived.Test.YtkmiemlpfkfiiaaDoorFwP
namespace Go.Proofs.YtkmiemlpfkfiiaaDoor
open Tryd
set_option linter.unusedVariables false
set_option linter.unusedSimpArgs false
theorem manyK_ok {n : Int} (h0 : 0 ≤ n) (h1 : n ≤ 255) : Ha n = n.toNat := by unfold Ha badK; rw [if_neg (by simp; omega)]
theorem Tu {a b p : Zj} {n : Int} (h0 : 0 ≤ n) (h1 : n ≤ 255) : J9 a b p n = Fj n.toNat (Jz (Ja a b) p (32 * n.toNat)) := by unfold J9; rw [manyK_ok h0 h1]
theorem Qnt {a b p : Zj} {n : Int} (h0 : 0 ≤ n) (h1 : n ≤ 255) : ((J9 a b p n).length : Int) = n := by rw [Tu h0 h1, Qam]; omega
theorem Qa3 {m k : Nat} {L : Zj} (h : k < m) (hL : L.length = 32 * m) : ((Fj m L).getD k []).length = 32 := by
 unfold Fj
 simp [List.getD_eq_getElem?_getD, h]; omega
def Y1 (key : Zj) : Zj := (J9 [] key (J6 ⟨#[115, 101, 97, 108]⟩) 2).getD 0 []
def Vm (key : Zj) : Zj := (J9 [] key (J6 ⟨#[115, 101, 97, 108]⟩) 2).getD 1 []
theorem Qfs (key : Zj) : (Y1 key).length = 32 := by
 unfold Y1; rw [Tu Yh Yh]; exact Qa3 Yh (by rw [U8])
theorem Qft (key : Zj) : (Vm key).length = 32 := by
 unfold Vm; rw [Tu Yh Yh]; exact Qa3 Yh (by rw [U8])
def len8 (n : Int) : Zj := [(BitVec.ofInt 64 n >>> 56).setWidth 8, (BitVec.ofInt 64 n >>> 48).setWidth 8, (BitVec.ofInt 64 n >>> 40).setWidth 8, (BitVec.ofInt 64 n >>> 32).setWidth 8,
 (BitVec.ofInt 64 n >>> 24).setWidth 8, (BitVec.ofInt 64 n >>> 16).setWidth 8, (BitVec.ofInt 64 n >>> 8).setWidth 8, (BitVec.ofInt 64 n >>> 0).setWidth 8]
@[simp] theorem Qj8 (n : Int) : (len8 n).length = 8 := rfl
def Ud (nz beside cipher : Zj) : Zj := nz ++ len8 (beside.length : Int) ++ beside ++ cipher
@[simp] theorem E8 (nz beside cipher : Zj) : (Ud nz beside cipher).length = nz.length + 8 + beside.length + cipher.length := by simp only [Ud, List.length_append, Qj8]
def Qed (key nz beside cipher : Zj) : Zj := Zu (Vm key) (Ud nz beside cipher)
@[simp] theorem Tc (key nz beside cipher : Zj) : (Qed key nz beside cipher).length = 32 := Jd _ _
def Gq (key nz plain : Zj) : Zj := X0 Z4 (Y1 key) 1#32 nz plain
@[simp] theorem Qak (key nz plain : Zj) : (Gq key nz plain).length = plain.length := Fb _ _ _ _ _
theorem Qi1 (key nz plain : Zj) : X0 Ru (Y1 key) 1#32 nz plain = Gq key nz plain := by unfold Gq; exact (Qnd _ _ _ _).symm
def Ko (key nz beside plain : Zj) : Zj := Gq key nz plain ++ Qed key nz beside (Gq key nz plain)
@[simp] theorem Eh (key nz beside plain : Zj) : (Ko key nz beside plain).length = plain.length + 32 := by simp [Ko]
def Dt (b : Zj) : Zj := b.take (b.length - 32)
def Uz (key nz beside b : Zj) : Bool := Qed key nz beside (Dt b) == b.drop (b.length - 32)
def Qba (key nz beside b : Zj) : Int := if b.length < 32 then 3 else if Uz key nz beside b then 0 else 10
def Rz (key nz beside b : Zj) : Zj := if b.length < 32 then [] else if Uz key nz beside b then Gq key nz (Dt b) else []
theorem Ff {b : Zj} (h : ¬ (b.length : Int) - 32 < 0) : (b.drop (0 : Int).toNat).take (((b.length : Int) - 32).toNat - (0 : Int).toNat) = Dt b := by
 unfold Dt; rw [show (0 : Int).toNat = 0 from rfl, List.drop_zero]; congr 1; omega
theorem Pv {b : Zj} (h : ¬ (b.length : Int) - 32 < 0) : (b.drop ((b.length : Int) - 32).toNat).take ((b.length : Int).toNat - ((b.length : Int) - 32).toNat) = b.drop (b.length - 32) := by
 rw [show ((b.length : Int) - 32).toNat = b.length - 32 by omega]; exact List.take_of_length_le Xk
def Bg (a b : Zj) : Nat → BitVec 8
 | 0 => 0
 | k + 1 => Bg a b k ||| (a.getD k 0 ^^^ b.getD k 0)
theorem Qjd {a b : Zj} : ∀ k, Bg a b k = 0 → ∀ j, j < k → a.getD j 0 = b.getD j 0 := by
 intro k
 induction k with
 | zero => intro _ j hj; omega
 | succ k ih =>
  intro h j hj
  simp only [Bg] at h
  obtain ⟨h1, h2⟩ := BitVec.or_eq_zero_iff.1 h
  rcases Nat.lt_or_ge j k with h3 | h3
  ·exact ih h1 j h3
  have : j = k := by omega
  subst this; exact BitVec.xor_eq_zero_iff.1 h2
theorem Qjf (a : Zj) : ∀ k, Bg a a k = 0 := by
 intro k
 induction k with
 | zero => rfl
 | succ k ih => simp [Bg, ih]
theorem Qje {a b : Zj} (h : (a.length : Int) = (b.length : Int)) : (Bg a b a.length == 0#8) = (a == b) := by
 rw [Bool.eq_iff_iff, beq_iff_eq, beq_iff_eq]
 constructor
 ·intro h1
  refine List.ext_getElem oM fun i h2 h3 => ?_
  have := Qjd _ h1 i h2
  simpa [List.getD_eq_getElem?_getD, h2, h3] using this
 rintro rfl; exact Qjf _ _
attribute [local irreducible] Zu tK Qdc Jz Ja J9 Bo Qcw Qa9 X0 Z4 Ru
theorem Qm3 (key : Zj) (w0 : World)  (hT : Tabs (Yn w0)) (hk : key.length = 32) : Xm prog 60 #[(agg u8 key)] w0 (fun r w1 => r = (Value.tuple #[(agg u8 (Y1 key)), (agg u8 (Vm key))]) ∧ Ext w0 w1) := by
 refine Qy (args := [(agg u8 key)]) func60 rfl ntmps60 results60 rfl ?_
 have m0 : Mem w0 (Qu w0) [] := Mem.of_world w0
 have hkl := Qnt (a := []) (b := key) (p := J6 ⟨#[115, 101, 97, 108]⟩) (n := 2) Yh Yh
 have hk0 : ((J9 [] key (J6 ⟨#[115, 101, 97, 108]⟩) 2).getD 0 []).length = 32 := Qfs key
 have hk1 : ((J9 [] key (J6 ⟨#[115, 101, 97, 108]⟩) 2).getD 1 []).length = 32 := Qft key
 refine sR <| Y5 (Zw (f := u8) (l := key) m0 rfl) fun w1 b1 m1 => Y5 (Zf m1 Zi) fun w2 b2 m2 => Y5 (Zf m2 Zi) fun w3 b3 m3 => ?_
 refine rN (sR ?_)
 refine Qd (Z7 (i := 0) (j := 32) Xf Yw rfl (Zc _ _) (Zc _ _) oM sD sD) <| G5 (oc73 (Qao rfl rfl rfl rfl) (c_keys Jp ([]) (sla b1 0 1 0 32 32) key (⟨#[115, 101, 97, 108]⟩) _ _ (hT.mono fun b o e => (m3).rest b o e) (Rd.nil _ _) sD (Rd.slaAll m3.h2 sD) sD sD sD)) ?_
 rintro _ w4 ⟨vxq5, Hsq5, rfl, gvxq5, k_w4⟩
 have m4 : Mem _ _ (Hsq5 ++ ([_, _, _])) := Mem.new (H := [_, _, _]) (H' := Hsq5) m3 k_w4
 refine Zb (Value.tuple #[vxq5, (i64 (Qcw (2 : Int)))]) <| Qd (v := vxq5) (Zg rfl rfl) <| Qd (v := (i64 (Qcw (2 : Int)))) (Zg rfl rfl) <| Zv vxq5 <| Zv (i64 (Qcw (2 : Int))) ?_
 refine rN (Qc ?_)
 refine Ju Xh ?_
 have m6 := (Mem.pick2 Hsq5 [_, _] [_] _ m4)
 have m7 := (Mem.pick2 [_] Hsq5 [_] _ m6)
 have m8 := (Mem.pick [_, _] Hsq5 _ m7)
 have m9 := (Mem.pick2 Hsq5 [_, _] [_] _ m8)
 have hFM10 : Mem w4 (Qu w0) ([(b2, .cells (cl u8 (List.replicate 32 0)) 23 (0, 0))] ++ (Hsq5 ++ ([(b3, .cells (cl u8 (List.replicate 32 0)) 23 (0, 0)), (b1, .cells (cl u8 key) 23 (0, 0))]))) := m9
 obtain ⟨RM10, hRM10⟩ : ∃ R2, R2 = Rest.add (Qu w0) (Hsq5 ++ ([(b3, .cells (cl u8 (List.replicate 32 0)) 23 (0, 0)), (b1, .cells (cl u8 key) 23 (0, 0))])) := ⟨_, rfl⟩
 have M100 : Mem w4 RM10 [(b2, .cells (cl u8 (List.replicate 32 0)) 23 (0, 0))] := by rw [hRM10]; exact Mem.give hFM10
 have hg11 : RdK RM10.blk (Fz u8) 32 vxq5 (J9 ([]) key (J6 (⟨#[115, 101, 97, 108]⟩)) (2 : Int)) := gvxq5.rdIn (fun p hp => by rw [hRM10]; exact Mem.addOwn hFM10 (List.mem_append_left _ hp))
 have ho12 : RM10.blk b3 = some (.cells (cl u8 (List.replicate 32 0)) 23 (0, 0)) := by rw [hRM10]; exact Mem.addOwn hFM10 (List.mem_append_right _ (List.Mem.head _))
 have ho13 : RM10.blk b1 = some (.cells (cl u8 key) 23 (0, 0)) := by rw [hRM10]; exact Mem.addOwn hFM10 (List.mem_append_right _ (List.Mem.tail _ (List.Mem.head _)))
 have hT14 : Tabs RM10.blk := by rw [hRM10]; exact Tabs.mono hT fun b o e => Mem.addRest hFM10 e
 refine Ea M100 [(0, false), (1, false), (2, false), (3, false), (4, false), (5, false), (6, true)] 7 rfl Xh <| L9 rfl (Ye (v := vxq5) rfl) <| yqH rfl (fun w _H _hx => Wx (i := 0) (RdK.ofRest hg11 _hx) uT82 Zi rfl rfl oM sD) <| yqH (v := (agg u8 ((J9 ([]) key (J6 (⟨#[115, 101, 97, 108]⟩)) (2 : Int)).getD 0 []))) rfl (fun w _H _hx => Nj (i := (0 : Int)) (RdK.ofRest hg11 _hx) sD Xf Zi rfl rfl) <| L9 rfl (Ye (v := vxq5) rfl) <| yqH rfl (fun w _H _hx => Wx (i := 1) (RdK.ofRest hg11 _hx) uT82 Zi rfl rfl oM sD) <| yqH (v := (agg u8 ((J9 ([]) key (J6 (⟨#[115, 101, 97, 108]⟩)) (2 : Int)).getD 1 []))) rfl (fun w _H _hx => Nj (i := (1 : Int)) (RdK.ofRest hg11 _hx) sD Xf Zi rfl rfl) ?_
 refine dk_n rfl (fun w15 e15 => ?_)
 have m15 := M100.ext e15
 refine J8.mono (Qq (f := u8) (l := (J9 ([]) key (J6 (⟨#[115, 101, 97, 108]⟩)) (2 : Int)).getD 0 []) Q9 Zi rfl rfl sD m15.h0 sZ rfl) ?_
 rintro _ w16 uq16
 have m16 := m15.upd0 uq16
 refine ⟨⟨_, m16⟩, ?_⟩
 refine Ug m16 fun w17 m17 => ?_
 have hX18 := m17
 rw [hRM10] at hX18
 have m19 : Mem w17 (Qu w0) ([(b2, .cells (cl u8 ((J9 ([]) key (J6 (⟨#[115, 101, 97, 108]⟩)) (2 : Int)).getD 0 [])) 23 (0, 0))] ++ (Hsq5 ++ ([(b3, .cells (cl u8 (List.replicate 32 0)) 23 (0, 0)), (b1, .cells (cl u8 key) 23 (0, 0))]))) := ymA (Mem.back hFM10 hX18)
 refine Ve (Qq (f := u8) (l := (J9 ([]) key (J6 (⟨#[115, 101, 97, 108]⟩)) (2 : Int)).getD 1 []) Q9 Zi rfl rfl sD ((Mem.pick2 [_] Hsq5 [_] _ m19)).h0 sZ rfl) ?_
 rintro _ w20 uq20
 have m20 : Mem _ _ ([_, _] ++ (Hsq5 ++ ([_]))) := Mem.upd0 (Mem.pick2 [_] Hsq5 [_] _ m19) uq20
 refine rN (Zy ?_)
 refine Qs [(agg u8 ((J9 ([]) key (J6 (⟨#[115, 101, 97, 108]⟩)) (2 : Int)).getD 0 [])), (agg u8 ((J9 ([]) key (J6 (⟨#[115, 101, 97, 108]⟩)) (2 : Int)).getD 1 []))] ⟨⟨_, rfl, Xi Xf rfl Zi m20.h1 sZ⟩, ⟨_, rfl, Xi Xf rfl Zi m20.h0 sZ⟩, trivial⟩ ?_
 exact ⟨rfl, m20.toExt⟩
set_option maxHeartbeats 1000000 in
theorem H6 (nz : Zj) (va : Value) (la : Zj) (vc : Value) (lc : Zj) (w0 : World)  (hn : nz.length = 12) (hra : Rd (Yn w0) u8 va la) (hla : la.length ≤ 1000000) (hrc : Rd (Yn w0) u8 vc lc) (hlc : lc.length ≤ 1000000) : Xm prog 62 #[(agg u8 nz), va, vc] w0 (fun r w1 => ∃ Hs, Xl u8 5 r (Ud nz la lc) Hs ∧ Mem w1 (Qu w0) Hs) := by
 refine Qy (args := [(agg u8 nz), va, vc]) func62 rfl ntmps62 results62 rfl ?_
 have m0 : Mem w0 (Qu w0) [] := Mem.of_world w0
 refine sR <| Y5 (Zw (f := u8) (l := nz) m0 rfl) fun w1 b3 m1 => Zv Jp ?_
 refine rN (sR ?_)
 refine Qd (Z7 (i := 0) (j := 12) Sl Yw rfl (Zc _ _) (Zc _ _) oM sD sD) <| G5 (oc34 (Jb rfl) (Rt (sla b3 0 1 0 12 12) nz _ (Rd.slaAll m1.h0 sD) sD)) ?_
 rintro rq3 w2 ⟨Hsq3, grq3, k_w2⟩
 have m2 : Mem _ _ (Hsq3 ++ ([_])) := Mem.new (H := [_]) (H' := Hsq3) m1 k_w2
 refine Zv rq3 ?_
 refine rN (Qc (sR ?_))
 refine Zv (i64 7) ?_
 refine rN (Qj ?_)
 refine Wu 9 ?_
 refine Zh (Qc (sR ?_))
 refine Zb (i64 7) <| Qd (D6 7 0) <| rN <| Qx rfl Yh ?_
 refine Qo (Qa (Qc (Qj (Qb ?_))))
 refine Zb rq3 <| Zb va <| Qd (Yg (Rd.ofRest hra m2) Zx rfl) <| Qd (Jv ⟨_, Di⟩ Xg rfl) <| Zb (i64 7) <| Qd (v := (i64 56)) (Vy 8 7) <| Qd (Xn (b := 56) rfl rfl oM) <| Qd (Yd ⟨_, Xg⟩ Uu rfl) <| Y5 (Zr u8 [((BitVec.ofInt 64 (la.length : Int)) >>> 56).setWidth 8] Q9 m2 Zx Yw rfl rfl rfl) fun w4 b23 m4 => G5 (Yl (f := u8) (Hs := Hsq3) (H := [_, _]) (Mem.pick [_] Hsq3 _ m4) grq3 rfl rfl (Rd.mkA m4.h0) Zx Zx Yw rfl Q9 sD sD) ?_
 rintro sv5 w5 ⟨Hs5, m5, g5⟩
 replace g5 : Xl u8 5 sv5 (nz ++ ([((BitVec.ofInt 64 (la.length : Int)) >>> 56).setWidth 8])) Hs5 := g5
 refine Zv sv5 ?_
 refine Zo (Qh ?_)
 have m6 := Mem.drop [_] _ (Mem.pick Hs5 [_] _ m5)
 refine Qb <| Zb (i64 7) <| Qd (v := (i64 6)) (A8 7 1) <| Zv (i64 6) ?_
 refine rN (Zh (Qc (sR ?_)))
 refine Zb (i64 6) <| Qd (D6 6 0) <| rN <| Qx rfl Yh ?_
 refine Qo (Qa (Qc (Qj (Qb ?_))))
 refine Zb sv5 <| Zb va <| Qd (Yg (Rd.ofRest hra m6) Zx rfl) <| Qd (Jv ⟨_, Di⟩ Xg rfl) <| Zb (i64 6) <| Qd (v := (i64 48)) (Vy 8 6) <| Qd (Xn (b := 48) rfl rfl oM) <| Qd (Yd ⟨_, Xg⟩ Uu rfl) <| Y5 (Zr u8 [((BitVec.ofInt 64 (la.length : Int)) >>> 48).setWidth 8] Q9 m6 Zx Yw rfl rfl rfl) fun w7 b23_1 m7 => G5 (Yl (f := u8) (Hs := Hs5) (H := [_, _]) (Mem.pick [_] Hs5 _ m7) g5 rfl rfl (Rd.mkA m7.h0) Zx Zx Yw rfl Q9 sD sD) ?_
 rintro sv8 w8 ⟨Hs8, m8, g8⟩
 replace g8 : Xl u8 5 sv8 ((nz ++ ([((BitVec.ofInt 64 (la.length : Int)) >>> 56).setWidth 8])) ++ ([((BitVec.ofInt 64 (la.length : Int)) >>> 48).setWidth 8])) Hs8 := g8
 refine Zv sv8 ?_
 refine Zo (Qh ?_)
 have m9 := Mem.drop [_] _ (Mem.pick Hs8 [_] _ m8)
 refine Qb <| Zb (i64 6) <| Qd (v := (i64 5)) (A8 6 1) <| Zv (i64 5) ?_
 refine rN (Zh (Qc (sR ?_)))
 refine Zb (i64 5) <| Qd (D6 5 0) <| rN <| Qx rfl Yh ?_
 refine Qo (Qa (Qc (Qj (Qb ?_))))
 refine Zb sv8 <| Zb va <| Qd (Yg (Rd.ofRest hra m9) Zx rfl) <| Qd (Jv ⟨_, Di⟩ Xg rfl) <| Zb (i64 5) <| Qd (v := (i64 40)) (Vy 8 5) <| Qd (Xn (b := 40) rfl rfl oM) <| Qd (Yd ⟨_, Xg⟩ Uu rfl) <| Y5 (Zr u8 [((BitVec.ofInt 64 (la.length : Int)) >>> 40).setWidth 8] Q9 m9 Zx Yw rfl rfl rfl) fun w10 b23_2 m10 => G5 (Yl (f := u8) (Hs := Hs8) (H := [_, _]) (Mem.pick [_] Hs8 _ m10) g8 rfl rfl (Rd.mkA m10.h0) Zx Zx Yw rfl Q9 sD sD) ?_
 rintro sv11 w11 ⟨Hs11, m11, g11⟩
 replace g11 : Xl u8 5 sv11 (((nz ++ ([((BitVec.ofInt 64 (la.length : Int)) >>> 56).setWidth 8])) ++ ([((BitVec.ofInt 64 (la.length : Int)) >>> 48).setWidth 8])) ++ ([((BitVec.ofInt 64 (la.length : Int)) >>> 40).setWidth 8])) Hs11 := g11
 refine Zv sv11 ?_
 refine Zo (Qh ?_)
 have m12 := Mem.drop [_] _ (Mem.pick Hs11 [_] _ m11)
 refine Qb <| Zb (i64 5) <| Qd (v := (i64 4)) (A8 5 1) <| Zv (i64 4) ?_
 refine rN (Zh (Qc (sR ?_)))
 refine Zb (i64 4) <| Qd (D6 4 0) <| rN <| Qx rfl Yh ?_
 refine Qo (Qa (Qc (Qj (Qb ?_))))
 refine Zb sv11 <| Zb va <| Qd (Yg (Rd.ofRest hra m12) Zx rfl) <| Qd (Jv ⟨_, Di⟩ Xg rfl) <| Zb (i64 4) <| Qd (v := (i64 32)) (Vy 8 4) <| Qd (Xn (b := 32) rfl rfl oM) <| Qd (Yd ⟨_, Xg⟩ Uu rfl) <| Y5 (Zr u8 [((BitVec.ofInt 64 (la.length : Int)) >>> 32).setWidth 8] Q9 m12 Zx Yw rfl rfl rfl) fun w13 b23_3 m13 => G5 (Yl (f := u8) (Hs := Hs11) (H := [_, _]) (Mem.pick [_] Hs11 _ m13) g11 rfl rfl (Rd.mkA m13.h0) Zx Zx Yw rfl Q9 sD sD) ?_
 rintro sv14 w14 ⟨Hs14, m14, g14⟩
 replace g14 : Xl u8 5 sv14 ((((nz ++ ([((BitVec.ofInt 64 (la.length : Int)) >>> 56).setWidth 8])) ++ ([((BitVec.ofInt 64 (la.length : Int)) >>> 48).setWidth 8])) ++ ([((BitVec.ofInt 64 (la.length : Int)) >>> 40).setWidth 8])) ++ ([((BitVec.ofInt 64 (la.length : Int)) >>> 32).setWidth 8])) Hs14 := g14
 refine Zv sv14 ?_
 refine Zo (Qh ?_)
 have m15 := Mem.drop [_] _ (Mem.pick Hs14 [_] _ m14)
 refine Qb <| Zb (i64 4) <| Qd (v := (i64 3)) (A8 4 1) <| Zv (i64 3) ?_
 refine rN (Zh (Qc (sR ?_)))
 refine Zb (i64 3) <| Qd (D6 3 0) <| rN <| Qx rfl Yh ?_
 refine Qo (Qa (Qc (Qj (Qb ?_))))
 refine Zb sv14 <| Zb va <| Qd (Yg (Rd.ofRest hra m15) Zx rfl) <| Qd (Jv ⟨_, Di⟩ Xg rfl) <| Zb (i64 3) <| Qd (v := (i64 24)) (Vy 8 3) <| Qd (Xn (b := 24) rfl rfl oM) <| Qd (Yd ⟨_, Xg⟩ Uu rfl) <| Y5 (Zr u8 [((BitVec.ofInt 64 (la.length : Int)) >>> 24).setWidth 8] Q9 m15 Zx Yw rfl rfl rfl) fun w16 b23_4 m16 => G5 (Yl (f := u8) (Hs := Hs14) (H := [_, _]) (Mem.pick [_] Hs14 _ m16) g14 rfl rfl (Rd.mkA m16.h0) Zx Zx Yw rfl Q9 sD sD) ?_
 rintro sv17 w17 ⟨Hs17, m17, g17⟩
 replace g17 : Xl u8 5 sv17 (((((nz ++ ([((BitVec.ofInt 64 (la.length : Int)) >>> 56).setWidth 8])) ++ ([((BitVec.ofInt 64 (la.length : Int)) >>> 48).setWidth 8])) ++ ([((BitVec.ofInt 64 (la.length : Int)) >>> 40).setWidth 8])) ++ ([((BitVec.ofInt 64 (la.length : Int)) >>> 32).setWidth 8])) ++ ([((BitVec.ofInt 64 (la.length : Int)) >>> 24).setWidth 8])) Hs17 := g17
 refine Zv sv17 ?_
 refine Zo (Qh ?_)
 have m18 := Mem.drop [_] _ (Mem.pick Hs17 [_] _ m17)
 refine CW.abs (fun g => g 0 = (agg u8 nz) ∧ g 1 = va ∧ g 2 = vc ∧ g 3 = (ptr b3 0) ∧ g 6 = Jp ∧ g 7 = sv17 ∧ g 8 = (i64 3) ∧ g 12 = (bl true) ∧ True) ⟨rfl, rfl, rfl, rfl, rfl, rfl, rfl, rfl, trivial⟩ ?_
 rintro fr19 ⟨s0, s1, s2, s3, s6, s7, s8, s12, _⟩
 refine Qb <| Yk s8 <| Qd (v := (i64 2)) (A8 3 1) <| Zv (i64 2) ?_
 refine rN (Zh (Qc (sR ?_)))
 refine Zb (i64 2) <| Qd (D6 2 0) <| rN <| Qx rfl Yh ?_
 refine Qo (Qa (Qc (Qj (Qb ?_))))
 refine Yk s7 <| Yk s1 <| Qd (Yg (Rd.ofRest hra m18) Zx rfl) <| Qd (Jv ⟨_, Di⟩ Xg rfl) <| Zb (i64 2) <| Qd (v := (i64 16)) (Vy 8 2) <| Qd (Xn (b := 16) rfl rfl oM) <| Qd (Yd ⟨_, Xg⟩ Uu rfl) <| Y5 (Zr u8 [((BitVec.ofInt 64 (la.length : Int)) >>> 16).setWidth 8] Q9 m18 Zx Yw rfl rfl rfl) fun w20 b23_5 m20 => G5 (Yl (f := u8) (Hs := Hs17) (H := [_, _]) (Mem.pick [_] Hs17 _ m20) g17 rfl rfl (Rd.mkA m20.h0) Zx Zx Yw rfl Q9 sD sD) ?_
 rintro sv21 w21 ⟨Hs21, m21, g21⟩
 replace g21 : Xl u8 5 sv21 ((((((nz ++ ([((BitVec.ofInt 64 (la.length : Int)) >>> 56).setWidth 8])) ++ ([((BitVec.ofInt 64 (la.length : Int)) >>> 48).setWidth 8])) ++ ([((BitVec.ofInt 64 (la.length : Int)) >>> 40).setWidth 8])) ++ ([((BitVec.ofInt 64 (la.length : Int)) >>> 32).setWidth 8])) ++ ([((BitVec.ofInt 64 (la.length : Int)) >>> 24).setWidth 8])) ++ ([((BitVec.ofInt 64 (la.length : Int)) >>> 16).setWidth 8])) Hs21 := g21
 refine Zv sv21 ?_
 refine Zo (Qh ?_)
 have m22 := Mem.drop [_] _ (Mem.pick Hs21 [_] _ m21)
 refine Qb <| Zb (i64 2) <| Qd (v := (i64 1)) (A8 2 1) <| Zv (i64 1) ?_
 refine rN (Zh (Qc (sR ?_)))
 refine Zb (i64 1) <| Qd (D6 1 0) <| rN <| Qx rfl Yh ?_
 refine Qo (Qa (Qc (Qj (Qb ?_))))
 refine Zb sv21 <| Yk s1 <| Qd (Yg (Rd.ofRest hra m22) Zx rfl) <| Qd (Jv ⟨_, Di⟩ Xg rfl) <| Zb (i64 1) <| Qd (v := (i64 8)) (Vy 8 1) <| Qd (Xn (b := 8) rfl rfl oM) <| Qd (Yd ⟨_, Xg⟩ Uu rfl) <| Y5 (Zr u8 [((BitVec.ofInt 64 (la.length : Int)) >>> 8).setWidth 8] Q9 m22 Zx Yw rfl rfl rfl) fun w23 b23_6 m23 => G5 (Yl (f := u8) (Hs := Hs21) (H := [_, _]) (Mem.pick [_] Hs21 _ m23) g21 rfl rfl (Rd.mkA m23.h0) Zx Zx Yw rfl Q9 sD sD) ?_
 rintro sv24 w24 ⟨Hs24, m24, g24⟩
 replace g24 : Xl u8 5 sv24 (((((((nz ++ ([((BitVec.ofInt 64 (la.length : Int)) >>> 56).setWidth 8])) ++ ([((BitVec.ofInt 64 (la.length : Int)) >>> 48).setWidth 8])) ++ ([((BitVec.ofInt 64 (la.length : Int)) >>> 40).setWidth 8])) ++ ([((BitVec.ofInt 64 (la.length : Int)) >>> 32).setWidth 8])) ++ ([((BitVec.ofInt 64 (la.length : Int)) >>> 24).setWidth 8])) ++ ([((BitVec.ofInt 64 (la.length : Int)) >>> 16).setWidth 8])) ++ ([((BitVec.ofInt 64 (la.length : Int)) >>> 8).setWidth 8])) Hs24 := g24
 refine Zv sv24 ?_
 refine Zo (Qh ?_)
 have m25 := Mem.drop [_] _ (Mem.pick Hs24 [_] _ m24)
 refine Qb <| Zb (i64 1) <| Qd (v := (i64 0)) (A8 1 1) <| Zv (i64 0) ?_
 refine rN (Zh (Qc (sR ?_)))
 refine Zb (i64 0) <| Qd (D6 0 0) <| rN <| Qx rfl Yh ?_
 refine Qo (Qa (Qc (Qj (Qb ?_))))
 refine Zb sv24 <| Yk s1 <| Qd (Yg (Rd.ofRest hra m25) Zx rfl) <| Qd (Jv ⟨_, Di⟩ Xg rfl) <| Zb (i64 0) <| Qd (v := (i64 0)) (Vy 8 0) <| Qd (Xn (b := 0) rfl rfl oM) <| Qd (Yd ⟨_, Xg⟩ Uu rfl) <| Y5 (Zr u8 [((BitVec.ofInt 64 (la.length : Int)) >>> 0).setWidth 8] Q9 m25 Zx Yw rfl rfl rfl) fun w26 b23_7 m26 => G5 (Yl (f := u8) (Hs := Hs24) (H := [_, _]) (Mem.pick [_] Hs24 _ m26) g24 rfl rfl (Rd.mkA m26.h0) Zx Zx Yw rfl Q9 sD sD) ?_
 rintro sv27 w27 ⟨Hs27, m27, g27⟩
 replace g27 : Xl u8 5 sv27 ((((((((nz ++ ([((BitVec.ofInt 64 (la.length : Int)) >>> 56).setWidth 8])) ++ ([((BitVec.ofInt 64 (la.length : Int)) >>> 48).setWidth 8])) ++ ([((BitVec.ofInt 64 (la.length : Int)) >>> 40).setWidth 8])) ++ ([((BitVec.ofInt 64 (la.length : Int)) >>> 32).setWidth 8])) ++ ([((BitVec.ofInt 64 (la.length : Int)) >>> 24).setWidth 8])) ++ ([((BitVec.ofInt 64 (la.length : Int)) >>> 16).setWidth 8])) ++ ([((BitVec.ofInt 64 (la.length : Int)) >>> 8).setWidth 8])) ++ ([((BitVec.ofInt 64 (la.length : Int)) >>> 0).setWidth 8])) Hs27 := g27
 refine Zv sv27 ?_
 refine Zo (Qh ?_)
 have m28 := Mem.drop [_] _ (Mem.pick Hs27 [_] _ m27)
 refine Qb <| Zb (i64 0) <| Qd (v := (i64 (-1))) (A8 0 1) <| Zv (i64 (-1)) ?_
 refine rN (Zh (Qc (sR ?_)))
 refine Zb (i64 (-1)) <| Qd (D6 (-1) 0) <| rN <| Ym rfl Yh <| Yc ?_
 refine Qr (Qr (Xp ?_))
 refine sR <| Zb sv27 <| Yk s1 <| G5 (Yl (f := u8) (Hs := Hs27) (H := [_]) m28 g27 rfl rfl (Rd.ofRest hra m28) Zx Zx Yw rfl Q9 sD sD) ?_
 rintro sv29 w29 ⟨Hs29, m29, g29⟩
 replace g29 : Xl u8 5 sv29 (((((((((nz ++ ([((BitVec.ofInt 64 (la.length : Int)) >>> 56).setWidth 8])) ++ ([((BitVec.ofInt 64 (la.length : Int)) >>> 48).setWidth 8])) ++ ([((BitVec.ofInt 64 (la.length : Int)) >>> 40).setWidth 8])) ++ ([((BitVec.ofInt 64 (la.length : Int)) >>> 32).setWidth 8])) ++ ([((BitVec.ofInt 64 (la.length : Int)) >>> 24).setWidth 8])) ++ ([((BitVec.ofInt 64 (la.length : Int)) >>> 16).setWidth 8])) ++ ([((BitVec.ofInt 64 (la.length : Int)) >>> 8).setWidth 8])) ++ ([((BitVec.ofInt 64 (la.length : Int)) >>> 0).setWidth 8])) ++ la) Hs29 := g29
 refine Yk s2 <| G5 (Yl (f := u8) (Hs := Hs29) (H := [_]) m29 g29 rfl rfl (Rd.ofRest hrc m29) Zx Zx Yw rfl Q9 sD sD) ?_
 rintro sv30 w30 ⟨Hs30, m30, g30⟩
 replace g30 : Xl u8 5 sv30 ((((((((((nz ++ ([((BitVec.ofInt 64 (la.length : Int)) >>> 56).setWidth 8])) ++ ([((BitVec.ofInt 64 (la.length : Int)) >>> 48).setWidth 8])) ++ ([((BitVec.ofInt 64 (la.length : Int)) >>> 40).setWidth 8])) ++ ([((BitVec.ofInt 64 (la.length : Int)) >>> 32).setWidth 8])) ++ ([((BitVec.ofInt 64 (la.length : Int)) >>> 24).setWidth 8])) ++ ([((BitVec.ofInt 64 (la.length : Int)) >>> 16).setWidth 8])) ++ ([((BitVec.ofInt 64 (la.length : Int)) >>> 8).setWidth 8])) ++ ([((BitVec.ofInt 64 (la.length : Int)) >>> 0).setWidth 8])) ++ la) ++ lc) Hs30 := g30
 refine Zv sv30 ?_
 refine rN (Zy ?_)
 refine Qs [sv30] ⟨rfl, trivial⟩ ?_
 have m31 := Mem.drop [_] _ (Mem.pick Hs30 [_] _ m30)
 have hfin : (((((((((nz ++ ([((BitVec.ofInt 64 (la.length : Int)) >>> 56).setWidth 8])) ++ ([((BitVec.ofInt 64 (la.length : Int)) >>> 48).setWidth 8])) ++ ([((BitVec.ofInt 64 (la.length : Int)) >>> 40).setWidth 8])) ++ ([((BitVec.ofInt 64 (la.length : Int)) >>> 32).setWidth 8])) ++ ([((BitVec.ofInt 64 (la.length : Int)) >>> 24).setWidth 8])) ++ ([((BitVec.ofInt 64 (la.length : Int)) >>> 16).setWidth 8])) ++ ([((BitVec.ofInt 64 (la.length : Int)) >>> 8).setWidth 8])) ++ ([((BitVec.ofInt 64 (la.length : Int)) >>> 0).setWidth 8])) ++ la) ++ lc = Ud nz la lc := by simp [Ud, len8]
 exact ⟨Hs30, hfin ▸ g30, by simpa using m31⟩
end Go.Proofs.YtkmiemlpfkfiiaaDoor
