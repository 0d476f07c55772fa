/- Contracts: the seal, first part. Conditions: none beyond those that each theorem states. -/
import Derived.Test.YtkmiemlpfkfiiaaDoorKd3
import Derived.Test.YtkmiemlpfkfiiaaDoorFwP
namespace Go.Proofs.YtkmiemlpfkfiiaaDoor
open BitVec renaming ofInt → aB
open List renaming getD_eq_getElem?_getD → aI, mem_append_right → aG, replicate → aA
open Mem renaming addOwn → ae, drop → aF, of_world → aY, pick → aC, pick2 → aN
open Rd renaming mkA → bG, ofRest → aK, slaAll → bT
open Tryd
set_option linter.unusedVariables false
set_option linter.unusedSimpArgs false
theorem manyK_ok {n : Int} (h0 : 0 ≤ n) (h1 : n ≤ 255) : Tf n = n.toNat := by unfold Tf badK; rw [if_neg (by simp; omega)]
theorem Qbw {a b p : Z4} {n : Int} (h0 : 0 ≤ n) (h1 : n ≤ 255) : Wh a b p n = Df n.toNat (Wv (Kw a b) p (32 * n.toNat)) := by unfold Wh; rw [manyK_ok h0 h1]
theorem Qlv {a b p : Z4} {n : Int} (h0 : 0 ≤ n) (h1 : n ≤ 255) : ((Wh a b p n).length : Int) = n := by rw [Qbw h0 h1, Qdt]; omega
theorem Qea {m k : Nat} {L : Z4} (h : k < m) (hL : L.length = 32 * m) : ((Df m L).getD k []).length = 32 := by
 unfold Df
 simp [aI, h]; omega
def Wj (key : Z4) : Z4 := (Wh [] key (J4 ⟨#[115, 101, 97, 108]⟩) 2).getD 0 []
def Ug (key : Z4) : Z4 := (Wh [] key (J4 ⟨#[115, 101, 97, 108]⟩) 2).getD 1 []
theorem Qdi (key : Z4) : (Wj key).length = 32 := by
 unfold Wj; rw [Qbw Yx Yx]; exact Qea Yx (by rw [Du])
theorem Qdj (key : Z4) : (Ug key).length = 32 := by
 unfold Ug; rw [Qbw Yx Yx]; exact Qea Yx (by rw [Du])
def len8 (n : Int) : Z4 := [(aB 64 n >>> 56).setWidth 8, (aB 64 n >>> 48).setWidth 8, (aB 64 n >>> 40).setWidth 8, (aB 64 n >>> 32).setWidth 8,
 (aB 64 n >>> 24).setWidth 8, (aB 64 n >>> 16).setWidth 8, (aB 64 n >>> 8).setWidth 8, (aB 64 n >>> 0).setWidth 8]
@[simp] theorem Qo1 (n : Int) : (len8 n).length = 8 := rfl
def Uy (nz beside cipher : Z4) : Z4 := nz ++ len8 (beside.length : Int) ++ beside ++ cipher
@[simp] theorem Me (nz beside cipher : Z4) : (Uy nz beside cipher).length = nz.length + 8 + beside.length + cipher.length := by simp only [Uy, List.length_append, Qo1]
def Qeg (key nz beside cipher : Z4) : Z4 := Xc (Ug key) (Uy nz beside cipher)
@[simp] theorem Qc7 (key nz beside cipher : Z4) : (Qeg key nz beside cipher).length = 32 := V6 _ _
def Us (key nz plain : Z4) : Z4 := Jh Yp (Wj key) 1#32 nz plain
@[simp] theorem Ny (key nz plain : Z4) : (Us key nz plain).length = plain.length := Ap _ _ _ _ _
theorem Qgu (key nz plain : Z4) : Jh Fv (Wj key) 1#32 nz plain = Us key nz plain := by unfold Us; exact (Qtf _ _ _ _).symm
def Gn (key nz beside plain : Z4) : Z4 := Us key nz plain ++ Qeg key nz beside (Us key nz plain)
@[simp] theorem Rk (key nz beside plain : Z4) : (Gn key nz beside plain).length = plain.length + 32 := by simp [Gn]
def Dp (b : Z4) : Z4 := b.take (b.length - 32)
def Ux (key nz beside b : Z4) : Bool := Qeg key nz beside (Dp b) == b.drop (b.length - 32)
def Su (key nz beside b : Z4) : Int := if b.length < 32 then 3 else if Ux key nz beside b then 0 else 10
def Td (key nz beside b : Z4) : Z4 := if b.length < 32 then [] else if Ux key nz beside b then Us key nz (Dp b) else []
theorem Qk2 (b : Z4) : (Dp b).length = b.length - 32 := by simp [Dp]
theorem openQ_le (key nz beside b : Z4) : (Td key nz beside b).length ≤ b.length := by
 unfold Td; split
 ·simp
 split
 ·rw [Ny, Qk2]; omega
 simp
theorem Uk {b : Z4} (h : ¬ (b.length : Int) - 32 < 0) : (b.drop (0 : Int).toNat).take (((b.length : Int) - 32).toNat - (0 : Int).toNat) = Dp b := by
 unfold Dp; rw [show (0 : Int).toNat = 0 from rfl, List.drop_zero]; congr 1; omega
theorem Le {b : Z4} (h : ¬ (b.length : Int) - 32 < 0) : (b.drop ((b.length : Int) - 32).toNat).take ((b.length : Int).toNat - ((b.length : Int) - 32).toNat) = b.drop (b.length - 32) := by
 rw [show ((b.length : Int) - 32).toNat = b.length - 32 by omega]; exact List.take_of_length_le Ya
def P7 (a b : Z4) : Nat → BitVec 8
 | 0 => 0
 | k + 1 => P7 a b k ||| (a.getD k 0 ^^^ b.getD k 0)
theorem Qn1 {a b : Z4} : ∀ k, P7 a b k = 0 → ∀ j, j < k → a.getD j 0 = b.getD j 0 := by
 intro k
 induction k with
 | zero => intro _ j hj; omega
 | succ k ih =>
  intro h j hj
  simp only [P7] at h
  obtain ⟨h1, h2⟩ := BitVec.or_eq_zero_iff.1 h
  rcases Nat.lt_or_ge j k with h3 | h3
  ·exact ih h1 j h3
  have : j = k := by omega
  subst this; exact BitVec.xor_eq_zero_iff.1 h2
theorem Qn3 (a : Z4) : ∀ k, P7 a a k = 0 := by
 intro k
 induction k with
 | zero => rfl
 | succ k ih => simp [P7, ih]
theorem Qn2 {a b : Z4} (h : (a.length : Int) = (b.length : Int)) : (P7 a b a.length == 0#8) = (a == b) := by
 rw [Bool.eq_iff_iff, beq_iff_eq, beq_iff_eq]
 constructor
 ·intro h1
  refine List.ext_getElem oM fun i h2 h3 => ?_
  have := Qn1 _ h1 i h2
  simpa [aI, h2, h3] using this
 rintro rfl; exact Qn3 _ _
attribute [local irreducible] Xc tK Qe5 Wv Kw Wh Rh Qgp Qek Jh Yp Fv
theorem Qsy (key : Z4) (w0 : World)  (hT : Tabs (Jd w0)) (hk : key.length = 32) : Xz prog 60 #[(agg u8 key)] w0 (fun r w1 => r = (Value.tuple #[(agg u8 (Wj key)), (agg u8 (Ug key))]) ∧ Ext w0 w1) := by
 refine Qz (args := [(agg u8 key)]) func60 rfl ntmps60 results60 rfl ?_
 have m0 : Mem w0 (Qs w0) [] := aY w0
 have hkl := Qlv (a := []) (b := key) (p := J4 ⟨#[115, 101, 97, 108]⟩) (n := 2) Yx Yx
 have hk0 : ((Wh [] key (J4 ⟨#[115, 101, 97, 108]⟩) 2).getD 0 []).length = 32 := Qdi key
 have hk1 : ((Wh [] key (J4 ⟨#[115, 101, 97, 108]⟩) 2).getD 1 []).length = 32 := Qdj key
 refine sR <| Y5 (Z5 (f := u8) (l := key) m0 rfl) fun w1 b1 m1 => Y5 (Q7 m1 Zh) fun w2 b2 m2 => Y5 (Q7 m2 Zh) fun w3 b3 m3 => ?_
 refine rN (sR ?_)
 refine Qd (Xj (i := 0) (j := 32) Xn Yr rfl (Zd _ _) (Zd _ _) oM sD sD) <| Vr (oc73 (Ry rfl rfl rfl rfl) (c_keys J3 ([]) (sla b1 0 1 0 32 32) key (⟨#[115, 101, 97, 108]⟩) _ _ (hT.mono fun b o e => (m3).rest b o e) (Rd.nil _ _) sD (bT m3.h2 sD) sD sD sD)) ?_
 rintro _ w4 ⟨vxq5, Hsq5, rfl, gvxq5, k_w4⟩
 have m4 : Mem _ _ (Hsq5 ++ ([_, _, _])) := Mem.new (H := [_, _, _]) (H' := Hsq5) m3 k_w4
 refine Zm (Value.tuple #[vxq5, (i64 (Qgp (2 : Int)))]) <| Qd (v := vxq5) (Zr rfl rfl) <| Qd (v := (i64 (Qgp (2 : Int)))) (Zr rfl rfl) <| Zx vxq5 <| Zx (i64 (Qgp (2 : Int))) ?_
 refine rN (Qa ?_)
 refine Jy Xv ?_
 have m6 := (aN Hsq5 [_, _] [_] _ m4)
 have m7 := (aN [_] Hsq5 [_] _ m6)
 have m8 := (aC [_, _] Hsq5 _ m7)
 have m9 := (aN Hsq5 [_, _] [_] _ m8)
 have hFM10 : Mem w4 (Qs w0) ([(b2, .cells (cl u8 (aA 32 0)) 23 (0, 0))] ++ (Hsq5 ++ ([(b3, .cells (cl u8 (aA 32 0)) 23 (0, 0)), (b1, .cells (cl u8 key) 23 (0, 0))]))) := m9
 obtain ⟨RM10, hRM10⟩ : ∃ R2, R2 = Rest.add (Qs w0) (Hsq5 ++ ([(b3, .cells (cl u8 (aA 32 0)) 23 (0, 0)), (b1, .cells (cl u8 key) 23 (0, 0))])) := ⟨_, rfl⟩
 have M100 : Mem w4 RM10 [(b2, .cells (cl u8 (aA 32 0)) 23 (0, 0))] := by rw [hRM10]; exact Mem.give hFM10
 have hg11 : RdK RM10.blk (F6 u8) 32 vxq5 (Wh ([]) key (J4 (⟨#[115, 101, 97, 108]⟩)) (2 : Int)) := gvxq5.rdIn (fun p hp => by rw [hRM10]; exact ae hFM10 (List.mem_append_left _ hp))
 have ho12 : RM10.blk b3 = some (.cells (cl u8 (aA 32 0)) 23 (0, 0)) := by rw [hRM10]; exact ae hFM10 (aG _ (List.Mem.head _))
 have ho13 : RM10.blk b1 = some (.cells (cl u8 key) 23 (0, 0)) := by rw [hRM10]; exact ae hFM10 (aG _ (List.Mem.tail _ (List.Mem.head _)))
 have hT14 : Tabs RM10.blk := by rw [hRM10]; exact Tabs.mono hT fun b o e => Mem.addRest hFM10 e
 refine Dk M100 [(0, false), (1, false), (2, false), (3, false), (4, false), (5, false), (6, true)] 7 rfl Xv <| N8 rfl (Jb (v := vxq5) rfl) <| yqH rfl (fun w _H _hx => Y4 (i := 0) (RdK.ofRest hg11 _hx) Qc5 Zh rfl rfl oM sD) <| yqH (v := (agg u8 ((Wh ([]) key (J4 (⟨#[115, 101, 97, 108]⟩)) (2 : Int)).getD 0 []))) rfl (fun w _H _hx => D7 (i := (0 : Int)) (RdK.ofRest hg11 _hx) sD Xn Zh rfl rfl) <| N8 rfl (Jb (v := vxq5) rfl) <| yqH rfl (fun w _H _hx => Y4 (i := 1) (RdK.ofRest hg11 _hx) Qc5 Zh rfl rfl oM sD) <| yqH (v := (agg u8 ((Wh ([]) key (J4 (⟨#[115, 101, 97, 108]⟩)) (2 : Int)).getD 1 []))) rfl (fun w _H _hx => D7 (i := (1 : Int)) (RdK.ofRest hg11 _hx) sD Xn Zh rfl rfl) ?_
 refine Qhn rfl (fun w15 e15 => ?_)
 have m15 := M100.ext e15
 refine Vf.mono (Qg (f := u8) (l := (Wh ([]) key (J4 (⟨#[115, 101, 97, 108]⟩)) (2 : Int)).getD 0 []) Qr Zh rfl rfl sD m15.h0 sZ rfl) ?_
 rintro _ w16 uq16
 have m16 := m15.upd0 uq16
 refine ⟨⟨_, m16⟩, ?_⟩
 refine Gf m16 fun w17 m17 => ?_
 have hX18 := m17
 rw [hRM10] at hX18
 have m19 : Mem w17 (Qs w0) ([(b2, .cells (cl u8 ((Wh ([]) key (J4 (⟨#[115, 101, 97, 108]⟩)) (2 : Int)).getD 0 [])) 23 (0, 0))] ++ (Hsq5 ++ ([(b3, .cells (cl u8 (aA 32 0)) 23 (0, 0)), (b1, .cells (cl u8 key) 23 (0, 0))]))) := ymA (Mem.back hFM10 hX18)
 refine Vd (Qg (f := u8) (l := (Wh ([]) key (J4 (⟨#[115, 101, 97, 108]⟩)) (2 : Int)).getD 1 []) Qr Zh rfl rfl sD ((aN [_] Hsq5 [_] _ m19)).h0 sZ rfl) ?_
 rintro _ w20 uq20
 have m20 : Mem _ _ ([_, _] ++ (Hsq5 ++ ([_]))) := Mem.upd0 (aN [_] Hsq5 [_] _ m19) uq20
 refine rN (Z8 ?_)
 refine Qq [(agg u8 ((Wh ([]) key (J4 (⟨#[115, 101, 97, 108]⟩)) (2 : Int)).getD 0 [])), (agg u8 ((Wh ([]) key (J4 (⟨#[115, 101, 97, 108]⟩)) (2 : Int)).getD 1 []))] ⟨⟨_, rfl, Xm Xn rfl Zh m20.h1 sZ⟩, ⟨_, rfl, Xm Xn rfl Zh m20.h0 sZ⟩, trivial⟩ ?_
 exact ⟨rfl, m20.toExt⟩
set_option maxHeartbeats 1000000 in
theorem Qac (nz : Z4) (va : Value) (la : Z4) (vc : Value) (lc : Z4) (w0 : World)  (hn : nz.length = 12) (hra : Rd (Jd w0) u8 va la) (hla : la.length ≤ 1000000) (hrc : Rd (Jd w0) u8 vc lc) (hlc : lc.length ≤ 1000000) : Xz prog 62 #[(agg u8 nz), va, vc] w0 (fun r w1 => ∃ Hs, Z9 u8 5 r (Uy nz la lc) Hs ∧ Mem w1 (Qs w0) Hs) := by
 refine Qz (args := [(agg u8 nz), va, vc]) func62 rfl ntmps62 results62 rfl ?_
 have m0 : Mem w0 (Qs w0) [] := aY w0
 refine sR <| Y5 (Z5 (f := u8) (l := nz) m0 rfl) fun w1 b3 m1 => Zx J3 ?_
 refine rN (sR ?_)
 refine Qd (Xj (i := 0) (j := 12) Pm Yr rfl (Zd _ _) (Zd _ _) oM sD sD) <| Vr (oc34 (Jz rfl) (Qco (sla b3 0 1 0 12 12) nz _ (bT m1.h0 sD) sD)) ?_
 rintro rq3 w2 ⟨Hsq3, grq3, k_w2⟩
 have m2 : Mem _ _ (Hsq3 ++ ([_])) := Mem.new (H := [_]) (H' := Hsq3) m1 k_w2
 refine Zx rq3 ?_
 refine rN (Qa (sR ?_))
 refine Zx (i64 7) ?_
 refine rN (Qh ?_)
 refine Vk 9 ?_
 refine Zq (Qa (sR ?_))
 refine Zm (i64 7) <| Qd (Uo 7 0) <| rN <| Za rfl Yx ?_
 refine Qo (Qc (Qa (Qh (Qb ?_))))
 refine Zm rq3 <| Zm va <| Qd (Yi (aK hra m2) Zn rfl) <| Qd (Jg ⟨_, Fa⟩ Yh rfl) <| Zm (i64 7) <| Qd (v := (i64 56)) (Vw 8 7) <| Qd (X7 (b := 56) rfl rfl oM) <| Qd (X5 ⟨_, Yh⟩ V3 rfl) <| Y5 (Qp u8 [((aB 64 (la.length : Int)) >>> 56).setWidth 8] Qr m2 Zn Yr rfl rfl rfl) fun w4 b23 m4 => Vr (Xh (f := u8) (Hs := Hsq3) (H := [_, _]) (aC [_] Hsq3 _ m4) grq3 rfl rfl (bG m4.h0) Zn Zn Yr rfl Qr sD sD) ?_
 rintro sv5 w5 ⟨Hs5, m5, g5⟩
 replace g5 : Z9 u8 5 sv5 (nz ++ ([((aB 64 (la.length : Int)) >>> 56).setWidth 8])) Hs5 := g5
 refine Zx sv5 ?_
 refine Zp (Qe ?_)
 have m6 := aF [_] _ (aC Hs5 [_] _ m5)
 refine Qb <| Zm (i64 7) <| Qd (v := (i64 6)) (V4 7 1) <| Zx (i64 6) ?_
 refine rN (Zq (Qa (sR ?_)))
 refine Zm (i64 6) <| Qd (Uo 6 0) <| rN <| Za rfl Yx ?_
 refine Qo (Qc (Qa (Qh (Qb ?_))))
 refine Zm sv5 <| Zm va <| Qd (Yi (aK hra m6) Zn rfl) <| Qd (Jg ⟨_, Fa⟩ Yh rfl) <| Zm (i64 6) <| Qd (v := (i64 48)) (Vw 8 6) <| Qd (X7 (b := 48) rfl rfl oM) <| Qd (X5 ⟨_, Yh⟩ V3 rfl) <| Y5 (Qp u8 [((aB 64 (la.length : Int)) >>> 48).setWidth 8] Qr m6 Zn Yr rfl rfl rfl) fun w7 b23_1 m7 => Vr (Xh (f := u8) (Hs := Hs5) (H := [_, _]) (aC [_] Hs5 _ m7) g5 rfl rfl (bG m7.h0) Zn Zn Yr rfl Qr sD sD) ?_
 rintro sv8 w8 ⟨Hs8, m8, g8⟩
 replace g8 : Z9 u8 5 sv8 ((nz ++ ([((aB 64 (la.length : Int)) >>> 56).setWidth 8])) ++ ([((aB 64 (la.length : Int)) >>> 48).setWidth 8])) Hs8 := g8
 refine Zx sv8 ?_
 refine Zp (Qe ?_)
 have m9 := aF [_] _ (aC Hs8 [_] _ m8)
 refine Qb <| Zm (i64 6) <| Qd (v := (i64 5)) (V4 6 1) <| Zx (i64 5) ?_
 refine rN (Zq (Qa (sR ?_)))
 refine Zm (i64 5) <| Qd (Uo 5 0) <| rN <| Za rfl Yx ?_
 refine Qo (Qc (Qa (Qh (Qb ?_))))
 refine Zm sv8 <| Zm va <| Qd (Yi (aK hra m9) Zn rfl) <| Qd (Jg ⟨_, Fa⟩ Yh rfl) <| Zm (i64 5) <| Qd (v := (i64 40)) (Vw 8 5) <| Qd (X7 (b := 40) rfl rfl oM) <| Qd (X5 ⟨_, Yh⟩ V3 rfl) <| Y5 (Qp u8 [((aB 64 (la.length : Int)) >>> 40).setWidth 8] Qr m9 Zn Yr rfl rfl rfl) fun w10 b23_2 m10 => Vr (Xh (f := u8) (Hs := Hs8) (H := [_, _]) (aC [_] Hs8 _ m10) g8 rfl rfl (bG m10.h0) Zn Zn Yr rfl Qr sD sD) ?_
 rintro sv11 w11 ⟨Hs11, m11, g11⟩
 replace g11 : Z9 u8 5 sv11 (((nz ++ ([((aB 64 (la.length : Int)) >>> 56).setWidth 8])) ++ ([((aB 64 (la.length : Int)) >>> 48).setWidth 8])) ++ ([((aB 64 (la.length : Int)) >>> 40).setWidth 8])) Hs11 := g11
 refine Zx sv11 ?_
 refine Zp (Qe ?_)
 have m12 := aF [_] _ (aC Hs11 [_] _ m11)
 refine Qb <| Zm (i64 5) <| Qd (v := (i64 4)) (V4 5 1) <| Zx (i64 4) ?_
 refine rN (Zq (Qa (sR ?_)))
 refine Zm (i64 4) <| Qd (Uo 4 0) <| rN <| Za rfl Yx ?_
 refine Qo (Qc (Qa (Qh (Qb ?_))))
 refine Zm sv11 <| Zm va <| Qd (Yi (aK hra m12) Zn rfl) <| Qd (Jg ⟨_, Fa⟩ Yh rfl) <| Zm (i64 4) <| Qd (v := (i64 32)) (Vw 8 4) <| Qd (X7 (b := 32) rfl rfl oM) <| Qd (X5 ⟨_, Yh⟩ V3 rfl) <| Y5 (Qp u8 [((aB 64 (la.length : Int)) >>> 32).setWidth 8] Qr m12 Zn Yr rfl rfl rfl) fun w13 b23_3 m13 => Vr (Xh (f := u8) (Hs := Hs11) (H := [_, _]) (aC [_] Hs11 _ m13) g11 rfl rfl (bG m13.h0) Zn Zn Yr rfl Qr sD sD) ?_
 rintro sv14 w14 ⟨Hs14, m14, g14⟩
 replace g14 : Z9 u8 5 sv14 ((((nz ++ ([((aB 64 (la.length : Int)) >>> 56).setWidth 8])) ++ ([((aB 64 (la.length : Int)) >>> 48).setWidth 8])) ++ ([((aB 64 (la.length : Int)) >>> 40).setWidth 8])) ++ ([((aB 64 (la.length : Int)) >>> 32).setWidth 8])) Hs14 := g14
 refine Zx sv14 ?_
 refine Zp (Qe ?_)
 have m15 := aF [_] _ (aC Hs14 [_] _ m14)
 refine Qb <| Zm (i64 4) <| Qd (v := (i64 3)) (V4 4 1) <| Zx (i64 3) ?_
 refine rN (Zq (Qa (sR ?_)))
 refine Zm (i64 3) <| Qd (Uo 3 0) <| rN <| Za rfl Yx ?_
 refine Qo (Qc (Qa (Qh (Qb ?_))))
 refine Zm sv14 <| Zm va <| Qd (Yi (aK hra m15) Zn rfl) <| Qd (Jg ⟨_, Fa⟩ Yh rfl) <| Zm (i64 3) <| Qd (v := (i64 24)) (Vw 8 3) <| Qd (X7 (b := 24) rfl rfl oM) <| Qd (X5 ⟨_, Yh⟩ V3 rfl) <| Y5 (Qp u8 [((aB 64 (la.length : Int)) >>> 24).setWidth 8] Qr m15 Zn Yr rfl rfl rfl) fun w16 b23_4 m16 => Vr (Xh (f := u8) (Hs := Hs14) (H := [_, _]) (aC [_] Hs14 _ m16) g14 rfl rfl (bG m16.h0) Zn Zn Yr rfl Qr sD sD) ?_
 rintro sv17 w17 ⟨Hs17, m17, g17⟩
 replace g17 : Z9 u8 5 sv17 (((((nz ++ ([((aB 64 (la.length : Int)) >>> 56).setWidth 8])) ++ ([((aB 64 (la.length : Int)) >>> 48).setWidth 8])) ++ ([((aB 64 (la.length : Int)) >>> 40).setWidth 8])) ++ ([((aB 64 (la.length : Int)) >>> 32).setWidth 8])) ++ ([((aB 64 (la.length : Int)) >>> 24).setWidth 8])) Hs17 := g17
 refine Zx sv17 ?_
 refine Zp (Qe ?_)
 have m18 := aF [_] _ (aC Hs17 [_] _ m17)
 refine CW.abs (fun g => g 0 = (agg u8 nz) ∧ g 1 = va ∧ g 2 = vc ∧ g 3 = (ptr b3 0) ∧ g 6 = J3 ∧ g 7 = sv17 ∧ g 8 = (i64 3) ∧ g 12 = (bl true) ∧ True) ⟨rfl, rfl, rfl, rfl, rfl, rfl, rfl, rfl, trivial⟩ ?_
 rintro fr19 ⟨s0, s1, s2, s3, s6, s7, s8, s12, _⟩
 refine Qb <| X9 s8 <| Qd (v := (i64 2)) (V4 3 1) <| Zx (i64 2) ?_
 refine rN (Zq (Qa (sR ?_)))
 refine Zm (i64 2) <| Qd (Uo 2 0) <| rN <| Za rfl Yx ?_
 refine Qo (Qc (Qa (Qh (Qb ?_))))
 refine X9 s7 <| X9 s1 <| Qd (Yi (aK hra m18) Zn rfl) <| Qd (Jg ⟨_, Fa⟩ Yh rfl) <| Zm (i64 2) <| Qd (v := (i64 16)) (Vw 8 2) <| Qd (X7 (b := 16) rfl rfl oM) <| Qd (X5 ⟨_, Yh⟩ V3 rfl) <| Y5 (Qp u8 [((aB 64 (la.length : Int)) >>> 16).setWidth 8] Qr m18 Zn Yr rfl rfl rfl) fun w20 b23_5 m20 => Vr (Xh (f := u8) (Hs := Hs17) (H := [_, _]) (aC [_] Hs17 _ m20) g17 rfl rfl (bG m20.h0) Zn Zn Yr rfl Qr sD sD) ?_
 rintro sv21 w21 ⟨Hs21, m21, g21⟩
 replace g21 : Z9 u8 5 sv21 ((((((nz ++ ([((aB 64 (la.length : Int)) >>> 56).setWidth 8])) ++ ([((aB 64 (la.length : Int)) >>> 48).setWidth 8])) ++ ([((aB 64 (la.length : Int)) >>> 40).setWidth 8])) ++ ([((aB 64 (la.length : Int)) >>> 32).setWidth 8])) ++ ([((aB 64 (la.length : Int)) >>> 24).setWidth 8])) ++ ([((aB 64 (la.length : Int)) >>> 16).setWidth 8])) Hs21 := g21
 refine Zx sv21 ?_
 refine Zp (Qe ?_)
 have m22 := aF [_] _ (aC Hs21 [_] _ m21)
 refine Qb <| Zm (i64 2) <| Qd (v := (i64 1)) (V4 2 1) <| Zx (i64 1) ?_
 refine rN (Zq (Qa (sR ?_)))
 refine Zm (i64 1) <| Qd (Uo 1 0) <| rN <| Za rfl Yx ?_
 refine Qo (Qc (Qa (Qh (Qb ?_))))
 refine Zm sv21 <| X9 s1 <| Qd (Yi (aK hra m22) Zn rfl) <| Qd (Jg ⟨_, Fa⟩ Yh rfl) <| Zm (i64 1) <| Qd (v := (i64 8)) (Vw 8 1) <| Qd (X7 (b := 8) rfl rfl oM) <| Qd (X5 ⟨_, Yh⟩ V3 rfl) <| Y5 (Qp u8 [((aB 64 (la.length : Int)) >>> 8).setWidth 8] Qr m22 Zn Yr rfl rfl rfl) fun w23 b23_6 m23 => Vr (Xh (f := u8) (Hs := Hs21) (H := [_, _]) (aC [_] Hs21 _ m23) g21 rfl rfl (bG m23.h0) Zn Zn Yr rfl Qr sD sD) ?_
 rintro sv24 w24 ⟨Hs24, m24, g24⟩
 replace g24 : Z9 u8 5 sv24 (((((((nz ++ ([((aB 64 (la.length : Int)) >>> 56).setWidth 8])) ++ ([((aB 64 (la.length : Int)) >>> 48).setWidth 8])) ++ ([((aB 64 (la.length : Int)) >>> 40).setWidth 8])) ++ ([((aB 64 (la.length : Int)) >>> 32).setWidth 8])) ++ ([((aB 64 (la.length : Int)) >>> 24).setWidth 8])) ++ ([((aB 64 (la.length : Int)) >>> 16).setWidth 8])) ++ ([((aB 64 (la.length : Int)) >>> 8).setWidth 8])) Hs24 := g24
 refine Zx sv24 ?_
 refine Zp (Qe ?_)
 have m25 := aF [_] _ (aC Hs24 [_] _ m24)
 refine Qb <| Zm (i64 1) <| Qd (v := (i64 0)) (V4 1 1) <| Zx (i64 0) ?_
 refine rN (Zq (Qa (sR ?_)))
 refine Zm (i64 0) <| Qd (Uo 0 0) <| rN <| Za rfl Yx ?_
 refine Qo (Qc (Qa (Qh (Qb ?_))))
 refine Zm sv24 <| X9 s1 <| Qd (Yi (aK hra m25) Zn rfl) <| Qd (Jg ⟨_, Fa⟩ Yh rfl) <| Zm (i64 0) <| Qd (v := (i64 0)) (Vw 8 0) <| Qd (X7 (b := 0) rfl rfl oM) <| Qd (X5 ⟨_, Yh⟩ V3 rfl) <| Y5 (Qp u8 [((aB 64 (la.length : Int)) >>> 0).setWidth 8] Qr m25 Zn Yr rfl rfl rfl) fun w26 b23_7 m26 => Vr (Xh (f := u8) (Hs := Hs24) (H := [_, _]) (aC [_] Hs24 _ m26) g24 rfl rfl (bG m26.h0) Zn Zn Yr rfl Qr sD sD) ?_
 rintro sv27 w27 ⟨Hs27, m27, g27⟩
 replace g27 : Z9 u8 5 sv27 ((((((((nz ++ ([((aB 64 (la.length : Int)) >>> 56).setWidth 8])) ++ ([((aB 64 (la.length : Int)) >>> 48).setWidth 8])) ++ ([((aB 64 (la.length : Int)) >>> 40).setWidth 8])) ++ ([((aB 64 (la.length : Int)) >>> 32).setWidth 8])) ++ ([((aB 64 (la.length : Int)) >>> 24).setWidth 8])) ++ ([((aB 64 (la.length : Int)) >>> 16).setWidth 8])) ++ ([((aB 64 (la.length : Int)) >>> 8).setWidth 8])) ++ ([((aB 64 (la.length : Int)) >>> 0).setWidth 8])) Hs27 := g27
 refine Zx sv27 ?_
 refine Zp (Qe ?_)
 have m28 := aF [_] _ (aC Hs27 [_] _ m27)
 refine Qb <| Zm (i64 0) <| Qd (v := (i64 (-1))) (V4 0 1) <| Zx (i64 (-1)) ?_
 refine rN (Zq (Qa (sR ?_)))
 refine Zm (i64 (-1)) <| Qd (Uo (-1) 0) <| rN <| Ja rfl Yx <| X3 ?_
 refine Qj (Qj (Xk ?_))
 refine sR <| Zm sv27 <| X9 s1 <| Vr (Xh (f := u8) (Hs := Hs27) (H := [_]) m28 g27 rfl rfl (aK hra m28) Zn Zn Yr rfl Qr sD sD) ?_
 rintro sv29 w29 ⟨Hs29, m29, g29⟩
 replace g29 : Z9 u8 5 sv29 (((((((((nz ++ ([((aB 64 (la.length : Int)) >>> 56).setWidth 8])) ++ ([((aB 64 (la.length : Int)) >>> 48).setWidth 8])) ++ ([((aB 64 (la.length : Int)) >>> 40).setWidth 8])) ++ ([((aB 64 (la.length : Int)) >>> 32).setWidth 8])) ++ ([((aB 64 (la.length : Int)) >>> 24).setWidth 8])) ++ ([((aB 64 (la.length : Int)) >>> 16).setWidth 8])) ++ ([((aB 64 (la.length : Int)) >>> 8).setWidth 8])) ++ ([((aB 64 (la.length : Int)) >>> 0).setWidth 8])) ++ la) Hs29 := g29
 refine X9 s2 <| Vr (Xh (f := u8) (Hs := Hs29) (H := [_]) m29 g29 rfl rfl (aK hrc m29) Zn Zn Yr rfl Qr sD sD) ?_
 rintro sv30 w30 ⟨Hs30, m30, g30⟩
 replace g30 : Z9 u8 5 sv30 ((((((((((nz ++ ([((aB 64 (la.length : Int)) >>> 56).setWidth 8])) ++ ([((aB 64 (la.length : Int)) >>> 48).setWidth 8])) ++ ([((aB 64 (la.length : Int)) >>> 40).setWidth 8])) ++ ([((aB 64 (la.length : Int)) >>> 32).setWidth 8])) ++ ([((aB 64 (la.length : Int)) >>> 24).setWidth 8])) ++ ([((aB 64 (la.length : Int)) >>> 16).setWidth 8])) ++ ([((aB 64 (la.length : Int)) >>> 8).setWidth 8])) ++ ([((aB 64 (la.length : Int)) >>> 0).setWidth 8])) ++ la) ++ lc) Hs30 := g30
 refine Zx sv30 ?_
 refine rN (Z8 ?_)
 refine Qq [sv30] ⟨rfl, trivial⟩ ?_
 have m31 := aF [_] _ (aC Hs30 [_] _ m30)
 have hfin : (((((((((nz ++ ([((aB 64 (la.length : Int)) >>> 56).setWidth 8])) ++ ([((aB 64 (la.length : Int)) >>> 48).setWidth 8])) ++ ([((aB 64 (la.length : Int)) >>> 40).setWidth 8])) ++ ([((aB 64 (la.length : Int)) >>> 32).setWidth 8])) ++ ([((aB 64 (la.length : Int)) >>> 24).setWidth 8])) ++ ([((aB 64 (la.length : Int)) >>> 16).setWidth 8])) ++ ([((aB 64 (la.length : Int)) >>> 8).setWidth 8])) ++ ([((aB 64 (la.length : Int)) >>> 0).setWidth 8])) ++ la) ++ lc = Uy nz la lc := by simp [Uy, len8]
 exact ⟨Hs30, hfin ▸ g30, by simpa using m31⟩
set_option maxHeartbeats 1000000 in
theorem Qkm (nz : Z4) (va : Value) (la : Z4) (vc : Value) (lc : Z4) (w0 : World)  (hn : nz.length = 12) (hra : Rd (Jd w0) u8 va la) (hla : la.length ≤ 1000000) (hrc : Rd (Jd w0) u8 vc lc) (hlc : lc.length ≤ 1000000) : Xz prog 72 #[(agg u8 nz), va, vc] w0 (fun r w1 => ∃ Hs, Z9 u8 5 r (Uy nz la lc) Hs ∧ Mem w1 (Qs w0) Hs) := by
 refine Qz (args := [(agg u8 nz), va, vc]) func72 rfl ntmps72 results72 rfl ?_
 have m0 : Mem w0 (Qs w0) [] := aY w0
 refine sR <| Y5 (Z5 (f := u8) (l := nz) m0 rfl) fun w1 b3 m1 => Zx J3 ?_
 refine rN (sR ?_)
 refine Y5 (Qp u8 [] Qr m1 Zn Yr rfl (by simp [Bz]) rfl) fun w2 b9 m2 => Qd (Xj (i := 0) (j := 12) Pm Yr rfl (Zd _ _) (Zd _ _) oM sD sD) <| Vr (Xh (f := u8) (Hs := [(b9, .cells (cl u8 ([])) 5 (0, 0))]) (H := [_]) m2 (Z9.of u8 5 b9 ([])) rfl rfl (bT m2.h1 sD) Zn Zn Yr rfl Qr sD sD) ?_
 rintro sv3 w3 ⟨Hs3, m3, g3⟩
 replace g3 : Z9 u8 5 sv3 nz Hs3 := g3
 refine Zx sv3 ?_
 refine rN (Qa (sR ?_))
 refine Zx (i64 7) ?_
 refine rN (Qh ?_)
 refine Vk 9 ?_
 refine Zq (Qa (sR ?_))
 refine Zm (i64 7) <| Qd (Uo 7 0) <| rN <| Za rfl Yx ?_
 refine Qo (Qc (Qa (Qh (Qb ?_))))
 refine Zm sv3 <| Zm va <| Qd (Yi (aK hra m3) Zn rfl) <| Qd (Jg ⟨_, Fa⟩ Yh rfl) <| Zm (i64 7) <| Qd (v := (i64 56)) (Vw 8 7) <| Qd (X7 (b := 56) rfl rfl oM) <| Qd (X5 ⟨_, Yh⟩ V3 rfl) <| Y5 (Qp u8 [((aB 64 (la.length : Int)) >>> 56).setWidth 8] Qr m3 Zn Yr rfl rfl rfl) fun w4 b24 m4 => Vr (Xh (f := u8) (Hs := Hs3) (H := [_, _]) (aC [_] Hs3 _ m4) g3 rfl rfl (bG m4.h0) Zn Zn Yr rfl Qr sD sD) ?_
 rintro sv5 w5 ⟨Hs5, m5, g5⟩
 replace g5 : Z9 u8 5 sv5 (nz ++ ([((aB 64 (la.length : Int)) >>> 56).setWidth 8])) Hs5 := g5
 refine Zx sv5 ?_
 refine Zp (Qe ?_)
 have m6 := aF [_] _ (aC Hs5 [_] _ m5)
 refine Qb <| Zm (i64 7) <| Qd (v := (i64 6)) (V4 7 1) <| Zx (i64 6) ?_
 refine rN (Zq (Qa (sR ?_)))
 refine Zm (i64 6) <| Qd (Uo 6 0) <| rN <| Za rfl Yx ?_
 refine Qo (Qc (Qa (Qh (Qb ?_))))
 refine Zm sv5 <| Zm va <| Qd (Yi (aK hra m6) Zn rfl) <| Qd (Jg ⟨_, Fa⟩ Yh rfl) <| Zm (i64 6) <| Qd (v := (i64 48)) (Vw 8 6) <| Qd (X7 (b := 48) rfl rfl oM) <| Qd (X5 ⟨_, Yh⟩ V3 rfl) <| Y5 (Qp u8 [((aB 64 (la.length : Int)) >>> 48).setWidth 8] Qr m6 Zn Yr rfl rfl rfl) fun w7 b24_1 m7 => Vr (Xh (f := u8) (Hs := Hs5) (H := [_, _]) (aC [_] Hs5 _ m7) g5 rfl rfl (bG m7.h0) Zn Zn Yr rfl Qr sD sD) ?_
 rintro sv8 w8 ⟨Hs8, m8, g8⟩
 replace g8 : Z9 u8 5 sv8 ((nz ++ ([((aB 64 (la.length : Int)) >>> 56).setWidth 8])) ++ ([((aB 64 (la.length : Int)) >>> 48).setWidth 8])) Hs8 := g8
 refine Zx sv8 ?_
 refine Zp (Qe ?_)
 have m9 := aF [_] _ (aC Hs8 [_] _ m8)
 refine Qb <| Zm (i64 6) <| Qd (v := (i64 5)) (V4 6 1) <| Zx (i64 5) ?_
 refine rN (Zq (Qa (sR ?_)))
 refine Zm (i64 5) <| Qd (Uo 5 0) <| rN <| Za rfl Yx ?_
 refine Qo (Qc (Qa (Qh (Qb ?_))))
 refine Zm sv8 <| Zm va <| Qd (Yi (aK hra m9) Zn rfl) <| Qd (Jg ⟨_, Fa⟩ Yh rfl) <| Zm (i64 5) <| Qd (v := (i64 40)) (Vw 8 5) <| Qd (X7 (b := 40) rfl rfl oM) <| Qd (X5 ⟨_, Yh⟩ V3 rfl) <| Y5 (Qp u8 [((aB 64 (la.length : Int)) >>> 40).setWidth 8] Qr m9 Zn Yr rfl rfl rfl) fun w10 b24_2 m10 => Vr (Xh (f := u8) (Hs := Hs8) (H := [_, _]) (aC [_] Hs8 _ m10) g8 rfl rfl (bG m10.h0) Zn Zn Yr rfl Qr sD sD) ?_
 rintro sv11 w11 ⟨Hs11, m11, g11⟩
 replace g11 : Z9 u8 5 sv11 (((nz ++ ([((aB 64 (la.length : Int)) >>> 56).setWidth 8])) ++ ([((aB 64 (la.length : Int)) >>> 48).setWidth 8])) ++ ([((aB 64 (la.length : Int)) >>> 40).setWidth 8])) Hs11 := g11
 refine Zx sv11 ?_
 refine Zp (Qe ?_)
 have m12 := aF [_] _ (aC Hs11 [_] _ m11)
 refine Qb <| Zm (i64 5) <| Qd (v := (i64 4)) (V4 5 1) <| Zx (i64 4) ?_
 refine rN (Zq (Qa (sR ?_)))
 refine Zm (i64 4) <| Qd (Uo 4 0) <| rN <| Za rfl Yx ?_
 refine Qo (Qc (Qa (Qh (Qb ?_))))
 refine Zm sv11 <| Zm va <| Qd (Yi (aK hra m12) Zn rfl) <| Qd (Jg ⟨_, Fa⟩ Yh rfl) <| Zm (i64 4) <| Qd (v := (i64 32)) (Vw 8 4) <| Qd (X7 (b := 32) rfl rfl oM) <| Qd (X5 ⟨_, Yh⟩ V3 rfl) <| Y5 (Qp u8 [((aB 64 (la.length : Int)) >>> 32).setWidth 8] Qr m12 Zn Yr rfl rfl rfl) fun w13 b24_3 m13 => Vr (Xh (f := u8) (Hs := Hs11) (H := [_, _]) (aC [_] Hs11 _ m13) g11 rfl rfl (bG m13.h0) Zn Zn Yr rfl Qr sD sD) ?_
 rintro sv14 w14 ⟨Hs14, m14, g14⟩
 replace g14 : Z9 u8 5 sv14 ((((nz ++ ([((aB 64 (la.length : Int)) >>> 56).setWidth 8])) ++ ([((aB 64 (la.length : Int)) >>> 48).setWidth 8])) ++ ([((aB 64 (la.length : Int)) >>> 40).setWidth 8])) ++ ([((aB 64 (la.length : Int)) >>> 32).setWidth 8])) Hs14 := g14
 refine Zx sv14 ?_
 refine Zp (Qe ?_)
 have m15 := aF [_] _ (aC Hs14 [_] _ m14)
 refine Qb <| Zm (i64 4) <| Qd (v := (i64 3)) (V4 4 1) <| Zx (i64 3) ?_
 refine rN (Zq (Qa (sR ?_)))
 refine Zm (i64 3) <| Qd (Uo 3 0) <| rN <| Za rfl Yx ?_
 refine Qo (Qc (Qa (Qh (Qb ?_))))
 refine Zm sv14 <| Zm va <| Qd (Yi (aK hra m15) Zn rfl) <| Qd (Jg ⟨_, Fa⟩ Yh rfl) <| Zm (i64 3) <| Qd (v := (i64 24)) (Vw 8 3) <| Qd (X7 (b := 24) rfl rfl oM) <| Qd (X5 ⟨_, Yh⟩ V3 rfl) <| Y5 (Qp u8 [((aB 64 (la.length : Int)) >>> 24).setWidth 8] Qr m15 Zn Yr rfl rfl rfl) fun w16 b24_4 m16 => Vr (Xh (f := u8) (Hs := Hs14) (H := [_, _]) (aC [_] Hs14 _ m16) g14 rfl rfl (bG m16.h0) Zn Zn Yr rfl Qr sD sD) ?_
 rintro sv17 w17 ⟨Hs17, m17, g17⟩
 replace g17 : Z9 u8 5 sv17 (((((nz ++ ([((aB 64 (la.length : Int)) >>> 56).setWidth 8])) ++ ([((aB 64 (la.length : Int)) >>> 48).setWidth 8])) ++ ([((aB 64 (la.length : Int)) >>> 40).setWidth 8])) ++ ([((aB 64 (la.length : Int)) >>> 32).setWidth 8])) ++ ([((aB 64 (la.length : Int)) >>> 24).setWidth 8])) Hs17 := g17
 refine Zx sv17 ?_
 refine Zp (Qe ?_)
 have m18 := aF [_] _ (aC Hs17 [_] _ m17)
 refine CW.abs (fun g => g 0 = (agg u8 nz) ∧ g 1 = va ∧ g 2 = vc ∧ g 3 = (ptr b3 0) ∧ g 6 = J3 ∧ g 7 = sv17 ∧ g 8 = (i64 3) ∧ g 13 = (bl true) ∧ True) ⟨rfl, rfl, rfl, rfl, rfl, rfl, rfl, rfl, trivial⟩ ?_
 rintro fr19 ⟨s0, s1, s2, s3, s6, s7, s8, s13, _⟩
 refine Qb <| X9 s8 <| Qd (v := (i64 2)) (V4 3 1) <| Zx (i64 2) ?_
 refine rN (Zq (Qa (sR ?_)))
 refine Zm (i64 2) <| Qd (Uo 2 0) <| rN <| Za rfl Yx ?_
 refine Qo (Qc (Qa (Qh (Qb ?_))))
 refine X9 s7 <| X9 s1 <| Qd (Yi (aK hra m18) Zn rfl) <| Qd (Jg ⟨_, Fa⟩ Yh rfl) <| Zm (i64 2) <| Qd (v := (i64 16)) (Vw 8 2) <| Qd (X7 (b := 16) rfl rfl oM) <| Qd (X5 ⟨_, Yh⟩ V3 rfl) <| Y5 (Qp u8 [((aB 64 (la.length : Int)) >>> 16).setWidth 8] Qr m18 Zn Yr rfl rfl rfl) fun w20 b24_5 m20 => Vr (Xh (f := u8) (Hs := Hs17) (H := [_, _]) (aC [_] Hs17 _ m20) g17 rfl rfl (bG m20.h0) Zn Zn Yr rfl Qr sD sD) ?_
 rintro sv21 w21 ⟨Hs21, m21, g21⟩
 replace g21 : Z9 u8 5 sv21 ((((((nz ++ ([((aB 64 (la.length : Int)) >>> 56).setWidth 8])) ++ ([((aB 64 (la.length : Int)) >>> 48).setWidth 8])) ++ ([((aB 64 (la.length : Int)) >>> 40).setWidth 8])) ++ ([((aB 64 (la.length : Int)) >>> 32).setWidth 8])) ++ ([((aB 64 (la.length : Int)) >>> 24).setWidth 8])) ++ ([((aB 64 (la.length : Int)) >>> 16).setWidth 8])) Hs21 := g21
 refine Zx sv21 ?_
 refine Zp (Qe ?_)
 have m22 := aF [_] _ (aC Hs21 [_] _ m21)
 refine Qb <| Zm (i64 2) <| Qd (v := (i64 1)) (V4 2 1) <| Zx (i64 1) ?_
 refine rN (Zq (Qa (sR ?_)))
 refine Zm (i64 1) <| Qd (Uo 1 0) <| rN <| Za rfl Yx ?_
 refine Qo (Qc (Qa (Qh (Qb ?_))))
 refine Zm sv21 <| X9 s1 <| Qd (Yi (aK hra m22) Zn rfl) <| Qd (Jg ⟨_, Fa⟩ Yh rfl) <| Zm (i64 1) <| Qd (v := (i64 8)) (Vw 8 1) <| Qd (X7 (b := 8) rfl rfl oM) <| Qd (X5 ⟨_, Yh⟩ V3 rfl) <| Y5 (Qp u8 [((aB 64 (la.length : Int)) >>> 8).setWidth 8] Qr m22 Zn Yr rfl rfl rfl) fun w23 b24_6 m23 => Vr (Xh (f := u8) (Hs := Hs21) (H := [_, _]) (aC [_] Hs21 _ m23) g21 rfl rfl (bG m23.h0) Zn Zn Yr rfl Qr sD sD) ?_
 rintro sv24 w24 ⟨Hs24, m24, g24⟩
 replace g24 : Z9 u8 5 sv24 (((((((nz ++ ([((aB 64 (la.length : Int)) >>> 56).setWidth 8])) ++ ([((aB 64 (la.length : Int)) >>> 48).setWidth 8])) ++ ([((aB 64 (la.length : Int)) >>> 40).setWidth 8])) ++ ([((aB 64 (la.length : Int)) >>> 32).setWidth 8])) ++ ([((aB 64 (la.length : Int)) >>> 24).setWidth 8])) ++ ([((aB 64 (la.length : Int)) >>> 16).setWidth 8])) ++ ([((aB 64 (la.length : Int)) >>> 8).setWidth 8])) Hs24 := g24
 refine Zx sv24 ?_
 refine Zp (Qe ?_)
 have m25 := aF [_] _ (aC Hs24 [_] _ m24)
 refine Qb <| Zm (i64 1) <| Qd (v := (i64 0)) (V4 1 1) <| Zx (i64 0) ?_
 refine rN (Zq (Qa (sR ?_)))
 refine Zm (i64 0) <| Qd (Uo 0 0) <| rN <| Za rfl Yx ?_
 refine Qo (Qc (Qa (Qh (Qb ?_))))
 refine Zm sv24 <| X9 s1 <| Qd (Yi (aK hra m25) Zn rfl) <| Qd (Jg ⟨_, Fa⟩ Yh rfl) <| Zm (i64 0) <| Qd (v := (i64 0)) (Vw 8 0) <| Qd (X7 (b := 0) rfl rfl oM) <| Qd (X5 ⟨_, Yh⟩ V3 rfl) <| Y5 (Qp u8 [((aB 64 (la.length : Int)) >>> 0).setWidth 8] Qr m25 Zn Yr rfl rfl rfl) fun w26 b24_7 m26 => Vr (Xh (f := u8) (Hs := Hs24) (H := [_, _]) (aC [_] Hs24 _ m26) g24 rfl rfl (bG m26.h0) Zn Zn Yr rfl Qr sD sD) ?_
 rintro sv27 w27 ⟨Hs27, m27, g27⟩
 replace g27 : Z9 u8 5 sv27 ((((((((nz ++ ([((aB 64 (la.length : Int)) >>> 56).setWidth 8])) ++ ([((aB 64 (la.length : Int)) >>> 48).setWidth 8])) ++ ([((aB 64 (la.length : Int)) >>> 40).setWidth 8])) ++ ([((aB 64 (la.length : Int)) >>> 32).setWidth 8])) ++ ([((aB 64 (la.length : Int)) >>> 24).setWidth 8])) ++ ([((aB 64 (la.length : Int)) >>> 16).setWidth 8])) ++ ([((aB 64 (la.length : Int)) >>> 8).setWidth 8])) ++ ([((aB 64 (la.length : Int)) >>> 0).setWidth 8])) Hs27 := g27
 refine Zx sv27 ?_
 refine Zp (Qe ?_)
 have m28 := aF [_] _ (aC Hs27 [_] _ m27)
 refine Qb <| Zm (i64 0) <| Qd (v := (i64 (-1))) (V4 0 1) <| Zx (i64 (-1)) ?_
 refine rN (Zq (Qa (sR ?_)))
 refine Zm (i64 (-1)) <| Qd (Uo (-1) 0) <| rN <| Ja rfl Yx <| X3 ?_
 refine Qj (Qj (Xk ?_))
 refine sR <| Zm sv27 <| X9 s1 <| Vr (Xh (f := u8) (Hs := Hs27) (H := [_]) m28 g27 rfl rfl (aK hra m28) Zn Zn Yr rfl Qr sD sD) ?_
 rintro sv29 w29 ⟨Hs29, m29, g29⟩
 replace g29 : Z9 u8 5 sv29 (((((((((nz ++ ([((aB 64 (la.length : Int)) >>> 56).setWidth 8])) ++ ([((aB 64 (la.length : Int)) >>> 48).setWidth 8])) ++ ([((aB 64 (la.length : Int)) >>> 40).setWidth 8])) ++ ([((aB 64 (la.length : Int)) >>> 32).setWidth 8])) ++ ([((aB 64 (la.length : Int)) >>> 24).setWidth 8])) ++ ([((aB 64 (la.length : Int)) >>> 16).setWidth 8])) ++ ([((aB 64 (la.length : Int)) >>> 8).setWidth 8])) ++ ([((aB 64 (la.length : Int)) >>> 0).setWidth 8])) ++ la) Hs29 := g29
 refine Zx sv29 ?_
 refine rN (sR ?_)
 refine Zm sv29 <| X9 s2 <| Vr (Xh (f := u8) (Hs := Hs29) (H := [_]) m29 g29 rfl rfl (aK hrc m29) Zn Zn Yr rfl Qr sD sD) ?_
 rintro sv30 w30 ⟨Hs30, m30, g30⟩
 replace g30 : Z9 u8 5 sv30 ((((((((((nz ++ ([((aB 64 (la.length : Int)) >>> 56).setWidth 8])) ++ ([((aB 64 (la.length : Int)) >>> 48).setWidth 8])) ++ ([((aB 64 (la.length : Int)) >>> 40).setWidth 8])) ++ ([((aB 64 (la.length : Int)) >>> 32).setWidth 8])) ++ ([((aB 64 (la.length : Int)) >>> 24).setWidth 8])) ++ ([((aB 64 (la.length : Int)) >>> 16).setWidth 8])) ++ ([((aB 64 (la.length : Int)) >>> 8).setWidth 8])) ++ ([((aB 64 (la.length : Int)) >>> 0).setWidth 8])) ++ la) ++ lc) Hs30 := g30
 refine Zx sv30 ?_
 refine rN (Z8 ?_)
 refine Qq [sv30] ⟨rfl, trivial⟩ ?_
 have m31 := aF [_] _ (aC Hs30 [_] _ m30)
 have hfin : (((((((((nz ++ ([((aB 64 (la.length : Int)) >>> 56).setWidth 8])) ++ ([((aB 64 (la.length : Int)) >>> 48).setWidth 8])) ++ ([((aB 64 (la.length : Int)) >>> 40).setWidth 8])) ++ ([((aB 64 (la.length : Int)) >>> 32).setWidth 8])) ++ ([((aB 64 (la.length : Int)) >>> 24).setWidth 8])) ++ ([((aB 64 (la.length : Int)) >>> 16).setWidth 8])) ++ ([((aB 64 (la.length : Int)) >>> 8).setWidth 8])) ++ ([((aB 64 (la.length : Int)) >>> 0).setWidth 8])) ++ la) ++ lc = Uy nz la lc := by simp [Uy, len8]
 exact ⟨Hs30, hfin ▸ g30, by simpa using m31⟩
end Go.Proofs.YtkmiemlpfkfiiaaDoor
