/- Contracts: the seal, first part. Conditions: none beyond those that each theorem states. -/
import Derived.Test.YtkmiemlpfkfiiaaDoorKd3
import Derived.Test.YtkmiemlpfkfiiaaDoorFwP
namespace Go.Proofs.YtkmiemlpfkfiiaaDoor
open Tryd
set_option linter.unusedVariables false
set_option linter.unusedSimpArgs false
theorem manyK_ok {n : Int} (h0 : 0 ≤ n) (h1 : n ≤ 255) : Ti n = n.toNat := by unfold Ti badK; rw [if_neg (by simp; omega)]
theorem Qb3 {a b p : Z8} {n : Int} (h0 : 0 ≤ n) (h1 : n ≤ 255) : Wh a b p n = Dp n.toNat (Vb (Kz a b) p (32 * n.toNat)) := by unfold Wh; rw [manyK_ok h0 h1]
theorem Qk7 {a b p : Z8} {n : Int} (h0 : 0 ≤ n) (h1 : n ≤ 255) : ((Wh a b p n).length : Int) = n := by rw [Qb3 h0 h1, Qdp]; omega
theorem Qd4 {m k : Nat} {L : Z8} (h : k < m) (hL : L.length = 32 * m) : ((Dp m L).getD k []).length = 32 := by
 unfold Dp
 simp [List.getD_eq_getElem?_getD, h]; omega
def Wi (key : Z8) : Z8 := (Wh [] key (J5 ⟨#[115, 101, 97, 108]⟩) 2).getD 0 []
def Uk (key : Z8) : Z8 := (Wh [] key (J5 ⟨#[115, 101, 97, 108]⟩) 2).getD 1 []
theorem Qdj (key : Z8) : (Wi key).length = 32 := by
 unfold Wi; rw [Qb3 Jb Jb]; exact Qd4 Jb (by rw [Dy])
theorem Qdk (key : Z8) : (Uk key).length = 32 := by
 unfold Uk; rw [Qb3 Jb Jb]; exact Qd4 Jb (by rw [Dy])
def len8 (n : Int) : Z8 := [(BitVec.ofInt 64 n >>> 56).setWidth 8, (BitVec.ofInt 64 n >>> 48).setWidth 8, (BitVec.ofInt 64 n >>> 40).setWidth 8, (BitVec.ofInt 64 n >>> 32).setWidth 8,
 (BitVec.ofInt 64 n >>> 24).setWidth 8, (BitVec.ofInt 64 n >>> 16).setWidth 8, (BitVec.ofInt 64 n >>> 8).setWidth 8, (BitVec.ofInt 64 n >>> 0).setWidth 8]
@[simp] theorem Qns (n : Int) : (len8 n).length = 8 := rfl
def Uy (nz beside cipher : Z8) : Z8 := nz ++ len8 (beside.length : Int) ++ beside ++ cipher
@[simp] theorem Nl (nz beside cipher : Z8) : (Uy nz beside cipher).length = nz.length + 8 + beside.length + cipher.length := by simp only [Uy, List.length_append, Qns]
def Qec (key nz beside cipher : Z8) : Z8 := Xj (Uk key) (Uy nz beside cipher)
@[simp] theorem tagP_length (key nz beside cipher : Z8) : (Qec key nz beside cipher).length = 32 := V6 _ _
def U9 (key nz plain : Z8) : Z8 := Jo Yr (Wi key) 1#32 nz plain
@[simp] theorem N9 (key nz plain : Z8) : (U9 key nz plain).length = plain.length := Nw _ _ _ _ _
theorem Qf9 (key nz plain : Z8) : Jo F8 (Wi key) 1#32 nz plain = U9 key nz plain := by unfold U9; exact (Qrg _ _ _ _).symm
def Ef (key nz beside plain : Z8) : Z8 := U9 key nz plain ++ Qec key nz beside (U9 key nz plain)
@[simp] theorem Qes (key nz beside plain : Z8) : (Ef key nz beside plain).length = plain.length + 32 := by simp [Ef]
def Ak (b : Z8) : Z8 := b.take (b.length - 32)
def Ff (key nz beside b : Z8) : Bool := Qec key nz beside (Ak b) == b.drop (b.length - 32)
def Qaw (key nz beside b : Z8) : Int := if b.length < 32 then 3 else if Ff key nz beside b then 0 else 10
def Qbd (key nz beside b : Z8) : Z8 := if b.length < 32 then [] else if Ff key nz beside b then U9 key nz (Ak b) else []
theorem Qkh (b : Z8) : (Ak b).length = b.length - 32 := by simp [Ak]
theorem openQ_le (key nz beside b : Z8) : (Qbd key nz beside b).length ≤ b.length := by
 unfold Qbd; split
 ·simp
 split
 ·rw [N9, Qkh]; omega
 simp
theorem Um {b : Z8} (h : ¬ (b.length : Int) - 32 < 0) : (b.drop (0 : Int).toNat).take (((b.length : Int) - 32).toNat - (0 : Int).toNat) = Ak b := by
 unfold Ak; rw [show (0 : Int).toNat = 0 from rfl, List.drop_zero]; congr 1; omega
theorem L6 {b : Z8} (h : ¬ (b.length : Int) - 32 < 0) : (b.drop ((b.length : Int) - 32).toNat).take ((b.length : Int).toNat - ((b.length : Int) - 32).toNat) = b.drop (b.length - 32) := by
 rw [show ((b.length : Int) - 32).toNat = b.length - 32 by omega]; exact List.take_of_length_le Ya
def Rk (a b : Z8) : Nat → BitVec 8
 | 0 => 0
 | k + 1 => Rk a b k ||| (a.getD k 0 ^^^ b.getD k 0)
theorem Qmy {a b : Z8} : ∀ k, Rk a b k = 0 → ∀ j, j < k → a.getD j 0 = b.getD j 0 := by
 intro k
 induction k with
 | zero => intro _ j hj; omega
 | succ k ih =>
  intro h j hj
  simp only [Rk] at h
  obtain ⟨h1, h2⟩ := BitVec.or_eq_zero_iff.1 h
  rcases Nat.lt_or_ge j k with h3 | h3
  ·exact ih h1 j h3
  have : j = k := by omega
  subst this; exact BitVec.xor_eq_zero_iff.1 h2
theorem Qm0 (a : Z8) : ∀ k, Rk a a k = 0 := by
 intro k
 induction k with
 | zero => rfl
 | succ k ih => simp [Rk, ih]
theorem Qmz {a b : Z8} (h : (a.length : Int) = (b.length : Int)) : (Rk a b a.length == 0#8) = (a == b) := by
 rw [Bool.eq_iff_iff, beq_iff_eq, beq_iff_eq]
 constructor
 ·intro h1
  refine List.ext_getElem oM fun i h2 h3 => ?_
  have := Qmy _ h1 i h2
  simpa [List.getD_eq_getElem?_getD, h2, h3] using this
 rintro rfl; exact Qm0 _ _
attribute [local irreducible] Xj tK Qey Vb Kz Wh Rq Qf5 Qeh Jo Yr F8
theorem Qq3 (key : Z8) (w0 : World)  (hT : Tabs (Y8 w0)) (hk : key.length = 32) : X0 prog 60 #[(agg u8 key)] w0 (fun r w1 => r = (Value.tuple #[(agg u8 (Wi key)), (agg u8 (Uk key))]) ∧ Ext w0 w1) := by
 refine Qy (args := [(agg u8 key)]) func60 rfl ntmps60 results60 rfl ?_
 have m0 : Mem w0 (Qr w0) [] := Mem.of_world w0
 have hkl := Qk7 (a := []) (b := key) (p := J5 ⟨#[115, 101, 97, 108]⟩) (n := 2) Jb Jb
 have hk0 : ((Wh [] key (J5 ⟨#[115, 101, 97, 108]⟩) 2).getD 0 []).length = 32 := Qdj key
 have hk1 : ((Wh [] key (J5 ⟨#[115, 101, 97, 108]⟩) 2).getD 1 []).length = 32 := Qdk key
 refine sR <| Y9 (Xc (f := u8) (l := key) m0 rfl) fun w1 b1 m1 => Y9 (Q7 m1 Zg) fun w2 b2 m2 => Y9 (Q7 m2 Zg) fun w3 b3 m3 => ?_
 refine rN (sR ?_)
 refine Qd (Xk (i := 0) (j := 32) Xl Yw rfl (Zd _ _) (Zd _ _) oM sD sD) <| Vw (oc73 (Tm rfl rfl rfl rfl) (c_keys Wl ([]) (sla b1 0 1 0 32 32) key (⟨#[115, 101, 97, 108]⟩) _ _ (hT.mono fun b o e => (m3).rest b o e) (Rd.nil _ _) sD (Rd.slaAll m3.h2 sD) sD sD sD)) ?_
 rintro _ w4 ⟨vxq5, Hsq5, rfl, gvxq5, k_w4⟩
 have m4 : Mem _ _ (Hsq5 ++ ([_, _, _])) := Mem.new (H := [_, _, _]) (H' := Hsq5) m3 k_w4
 refine Zm (Value.tuple #[vxq5, (i64 (Qf5 (2 : Int)))]) <| Qd (v := vxq5) (Zr rfl rfl) <| Qd (v := (i64 (Qf5 (2 : Int)))) (Zr rfl rfl) <| Zx vxq5 <| Zx (i64 (Qf5 (2 : Int))) ?_
 refine rN (Qa ?_)
 refine J4 Xo ?_
 have m6 := (Mem.pick2 Hsq5 [_, _] [_] _ m4)
 have m7 := (Mem.pick2 [_] Hsq5 [_] _ m6)
 have m8 := (Mem.pick [_, _] Hsq5 _ m7)
 have m9 := (Mem.pick2 Hsq5 [_, _] [_] _ m8)
 have hFM10 : Mem w4 (Qr w0) ([(b2, .cells (cl u8 (List.replicate 32 0)) 23 (0, 0))] ++ (Hsq5 ++ ([(b3, .cells (cl u8 (List.replicate 32 0)) 23 (0, 0)), (b1, .cells (cl u8 key) 23 (0, 0))]))) := m9
 obtain ⟨RM10, hRM10⟩ : ∃ R2, R2 = Rest.add (Qr w0) (Hsq5 ++ ([(b3, .cells (cl u8 (List.replicate 32 0)) 23 (0, 0)), (b1, .cells (cl u8 key) 23 (0, 0))])) := ⟨_, rfl⟩
 have M100 : Mem w4 RM10 [(b2, .cells (cl u8 (List.replicate 32 0)) 23 (0, 0))] := by rw [hRM10]; exact Mem.give hFM10
 have hg11 : RdK RM10.blk (Eb u8) 32 vxq5 (Wh ([]) key (J5 (⟨#[115, 101, 97, 108]⟩)) (2 : Int)) := gvxq5.rdIn (fun p hp => by rw [hRM10]; exact Mem.addOwn hFM10 (List.mem_append_left _ hp))
 have ho12 : RM10.blk b3 = some (.cells (cl u8 (List.replicate 32 0)) 23 (0, 0)) := by rw [hRM10]; exact Mem.addOwn hFM10 (List.mem_append_right _ (List.Mem.head _))
 have ho13 : RM10.blk b1 = some (.cells (cl u8 key) 23 (0, 0)) := by rw [hRM10]; exact Mem.addOwn hFM10 (List.mem_append_right _ (List.Mem.tail _ (List.Mem.head _)))
 have hT14 : Tabs RM10.blk := by rw [hRM10]; exact Tabs.mono hT fun b o e => Mem.addRest hFM10 e
 refine Dv M100 [(0, false), (1, false), (2, false), (3, false), (4, false), (5, false), (6, true)] 7 rfl Xo <| Ns rfl (Yh (v := vxq5) rfl) <| yqH rfl (fun w _H _hx => Yn (i := 0) (RdK.ofRest hg11 _hx) Qc6 Zg rfl rfl oM sD) <| yqH (v := (agg u8 ((Wh ([]) key (J5 (⟨#[115, 101, 97, 108]⟩)) (2 : Int)).getD 0 []))) rfl (fun w _H _hx => Cf (i := (0 : Int)) (RdK.ofRest hg11 _hx) sD Xl Zg rfl rfl) <| Ns rfl (Yh (v := vxq5) rfl) <| yqH rfl (fun w _H _hx => Yn (i := 1) (RdK.ofRest hg11 _hx) Qc6 Zg rfl rfl oM sD) <| yqH (v := (agg u8 ((Wh ([]) key (J5 (⟨#[115, 101, 97, 108]⟩)) (2 : Int)).getD 1 []))) rfl (fun w _H _hx => Cf (i := (1 : Int)) (RdK.ofRest hg11 _hx) sD Xl Zg rfl rfl) ?_
 refine Qf8 rfl (fun w15 e15 => ?_)
 have m15 := M100.ext e15
 refine Wu.mono (Qg (f := u8) (l := (Wh ([]) key (J5 (⟨#[115, 101, 97, 108]⟩)) (2 : Int)).getD 0 []) Qs Zg rfl rfl sD m15.h0 sZ rfl) ?_
 rintro _ w16 uq16
 have m16 := m15.upd0 uq16
 refine ⟨⟨_, m16⟩, ?_⟩
 refine Gf m16 fun w17 m17 => ?_
 have hX18 := m17
 rw [hRM10] at hX18
 have m19 : Mem w17 (Qr w0) ([(b2, .cells (cl u8 ((Wh ([]) key (J5 (⟨#[115, 101, 97, 108]⟩)) (2 : Int)).getD 0 [])) 23 (0, 0))] ++ (Hsq5 ++ ([(b3, .cells (cl u8 (List.replicate 32 0)) 23 (0, 0)), (b1, .cells (cl u8 key) 23 (0, 0))]))) := ymA (Mem.back hFM10 hX18)
 refine Vf (Qg (f := u8) (l := (Wh ([]) key (J5 (⟨#[115, 101, 97, 108]⟩)) (2 : Int)).getD 1 []) Qs Zg rfl rfl sD ((Mem.pick2 [_] Hsq5 [_] _ m19)).h0 sZ rfl) ?_
 rintro _ w20 uq20
 have m20 : Mem _ _ ([_, _] ++ (Hsq5 ++ ([_]))) := Mem.upd0 (Mem.pick2 [_] Hsq5 [_] _ m19) uq20
 refine rN (Zz ?_)
 refine Qp [(agg u8 ((Wh ([]) key (J5 (⟨#[115, 101, 97, 108]⟩)) (2 : Int)).getD 0 [])), (agg u8 ((Wh ([]) key (J5 (⟨#[115, 101, 97, 108]⟩)) (2 : Int)).getD 1 []))] ⟨⟨_, rfl, Xn Xl rfl Zg m20.h1 sZ⟩, ⟨_, rfl, Xn Xl rfl Zg m20.h0 sZ⟩, trivial⟩ ?_
 exact ⟨rfl, m20.toExt⟩
set_option maxHeartbeats 1000000 in
theorem Qah (nz : Z8) (va : Value) (la : Z8) (vc : Value) (lc : Z8) (w0 : World)  (hn : nz.length = 12) (hra : Rd (Y8 w0) u8 va la) (hla : la.length ≤ 1000000) (hrc : Rd (Y8 w0) u8 vc lc) (hlc : lc.length ≤ 1000000) : X0 prog 62 #[(agg u8 nz), va, vc] w0 (fun r w1 => ∃ Hs, Z5 u8 5 r (Uy nz la lc) Hs ∧ Mem w1 (Qr w0) Hs) := by
 refine Qy (args := [(agg u8 nz), va, vc]) func62 rfl ntmps62 results62 rfl ?_
 have m0 : Mem w0 (Qr w0) [] := Mem.of_world w0
 refine sR <| Y9 (Xc (f := u8) (l := nz) m0 rfl) fun w1 b3 m1 => Zx Wl ?_
 refine rN (sR ?_)
 refine Qd (Xk (i := 0) (j := 12) Po Yw rfl (Zd _ _) (Zd _ _) oM sD sD) <| Vw (oc34 (Jv rfl) (Qcr (sla b3 0 1 0 12 12) nz _ (Rd.slaAll m1.h0 sD) sD)) ?_
 rintro rq3 w2 ⟨Hsq3, grq3, k_w2⟩
 have m2 : Mem _ _ (Hsq3 ++ ([_])) := Mem.new (H := [_]) (H' := Hsq3) m1 k_w2
 refine Zx rq3 ?_
 refine rN (Qa (sR ?_))
 refine Zx (i64 7) ?_
 refine rN (Qh ?_)
 refine Vo 9 ?_
 refine Zq (Qa (sR ?_))
 refine Zm (i64 7) <| Qd (Ur 7 0) <| rN <| Q9 rfl Jb ?_
 refine Qn (Qc (Qa (Qh (Qb ?_))))
 refine Zm rq3 <| Zm va <| Qd (Yk (Rd.ofRest hra m2) Zo rfl) <| Qd (Jl ⟨_, Uu⟩ Yj rfl) <| Zm (i64 7) <| Qd (v := (i64 56)) (Vx 8 7) <| Qd (X9 (b := 56) rfl rfl oM) <| Qd (X7 ⟨_, Yj⟩ Vs rfl) <| Y9 (Qq u8 [((BitVec.ofInt 64 (la.length : Int)) >>> 56).setWidth 8] Qs m2 Zo Yw rfl rfl rfl) fun w4 b23 m4 => Vw (Xf (f := u8) (Hs := Hsq3) (H := [_, _]) (Mem.pick [_] Hsq3 _ m4) grq3 rfl rfl (Rd.mkA m4.h0) Zo Zo Yw rfl Qs sD sD) ?_
 rintro sv5 w5 ⟨Hs5, m5, g5⟩
 replace g5 : Z5 u8 5 sv5 (nz ++ ([((BitVec.ofInt 64 (la.length : Int)) >>> 56).setWidth 8])) Hs5 := g5
 refine Zx sv5 ?_
 refine Zp (Qe ?_)
 have m6 := Mem.drop [_] _ (Mem.pick Hs5 [_] _ m5)
 refine Qb <| Zm (i64 7) <| Qd (v := (i64 6)) (V4 7 1) <| Zx (i64 6) ?_
 refine rN (Zq (Qa (sR ?_)))
 refine Zm (i64 6) <| Qd (Ur 6 0) <| rN <| Q9 rfl Jb ?_
 refine Qn (Qc (Qa (Qh (Qb ?_))))
 refine Zm sv5 <| Zm va <| Qd (Yk (Rd.ofRest hra m6) Zo rfl) <| Qd (Jl ⟨_, Uu⟩ Yj rfl) <| Zm (i64 6) <| Qd (v := (i64 48)) (Vx 8 6) <| Qd (X9 (b := 48) rfl rfl oM) <| Qd (X7 ⟨_, Yj⟩ Vs rfl) <| Y9 (Qq u8 [((BitVec.ofInt 64 (la.length : Int)) >>> 48).setWidth 8] Qs m6 Zo Yw rfl rfl rfl) fun w7 b23_1 m7 => Vw (Xf (f := u8) (Hs := Hs5) (H := [_, _]) (Mem.pick [_] Hs5 _ m7) g5 rfl rfl (Rd.mkA m7.h0) Zo Zo Yw rfl Qs sD sD) ?_
 rintro sv8 w8 ⟨Hs8, m8, g8⟩
 replace g8 : Z5 u8 5 sv8 ((nz ++ ([((BitVec.ofInt 64 (la.length : Int)) >>> 56).setWidth 8])) ++ ([((BitVec.ofInt 64 (la.length : Int)) >>> 48).setWidth 8])) Hs8 := g8
 refine Zx sv8 ?_
 refine Zp (Qe ?_)
 have m9 := Mem.drop [_] _ (Mem.pick Hs8 [_] _ m8)
 refine Qb <| Zm (i64 6) <| Qd (v := (i64 5)) (V4 6 1) <| Zx (i64 5) ?_
 refine rN (Zq (Qa (sR ?_)))
 refine Zm (i64 5) <| Qd (Ur 5 0) <| rN <| Q9 rfl Jb ?_
 refine Qn (Qc (Qa (Qh (Qb ?_))))
 refine Zm sv8 <| Zm va <| Qd (Yk (Rd.ofRest hra m9) Zo rfl) <| Qd (Jl ⟨_, Uu⟩ Yj rfl) <| Zm (i64 5) <| Qd (v := (i64 40)) (Vx 8 5) <| Qd (X9 (b := 40) rfl rfl oM) <| Qd (X7 ⟨_, Yj⟩ Vs rfl) <| Y9 (Qq u8 [((BitVec.ofInt 64 (la.length : Int)) >>> 40).setWidth 8] Qs m9 Zo Yw rfl rfl rfl) fun w10 b23_2 m10 => Vw (Xf (f := u8) (Hs := Hs8) (H := [_, _]) (Mem.pick [_] Hs8 _ m10) g8 rfl rfl (Rd.mkA m10.h0) Zo Zo Yw rfl Qs sD sD) ?_
 rintro sv11 w11 ⟨Hs11, m11, g11⟩
 replace g11 : Z5 u8 5 sv11 (((nz ++ ([((BitVec.ofInt 64 (la.length : Int)) >>> 56).setWidth 8])) ++ ([((BitVec.ofInt 64 (la.length : Int)) >>> 48).setWidth 8])) ++ ([((BitVec.ofInt 64 (la.length : Int)) >>> 40).setWidth 8])) Hs11 := g11
 refine Zx sv11 ?_
 refine Zp (Qe ?_)
 have m12 := Mem.drop [_] _ (Mem.pick Hs11 [_] _ m11)
 refine Qb <| Zm (i64 5) <| Qd (v := (i64 4)) (V4 5 1) <| Zx (i64 4) ?_
 refine rN (Zq (Qa (sR ?_)))
 refine Zm (i64 4) <| Qd (Ur 4 0) <| rN <| Q9 rfl Jb ?_
 refine Qn (Qc (Qa (Qh (Qb ?_))))
 refine Zm sv11 <| Zm va <| Qd (Yk (Rd.ofRest hra m12) Zo rfl) <| Qd (Jl ⟨_, Uu⟩ Yj rfl) <| Zm (i64 4) <| Qd (v := (i64 32)) (Vx 8 4) <| Qd (X9 (b := 32) rfl rfl oM) <| Qd (X7 ⟨_, Yj⟩ Vs rfl) <| Y9 (Qq u8 [((BitVec.ofInt 64 (la.length : Int)) >>> 32).setWidth 8] Qs m12 Zo Yw rfl rfl rfl) fun w13 b23_3 m13 => Vw (Xf (f := u8) (Hs := Hs11) (H := [_, _]) (Mem.pick [_] Hs11 _ m13) g11 rfl rfl (Rd.mkA m13.h0) Zo Zo Yw rfl Qs sD sD) ?_
 rintro sv14 w14 ⟨Hs14, m14, g14⟩
 replace g14 : Z5 u8 5 sv14 ((((nz ++ ([((BitVec.ofInt 64 (la.length : Int)) >>> 56).setWidth 8])) ++ ([((BitVec.ofInt 64 (la.length : Int)) >>> 48).setWidth 8])) ++ ([((BitVec.ofInt 64 (la.length : Int)) >>> 40).setWidth 8])) ++ ([((BitVec.ofInt 64 (la.length : Int)) >>> 32).setWidth 8])) Hs14 := g14
 refine Zx sv14 ?_
 refine Zp (Qe ?_)
 have m15 := Mem.drop [_] _ (Mem.pick Hs14 [_] _ m14)
 refine Qb <| Zm (i64 4) <| Qd (v := (i64 3)) (V4 4 1) <| Zx (i64 3) ?_
 refine rN (Zq (Qa (sR ?_)))
 refine Zm (i64 3) <| Qd (Ur 3 0) <| rN <| Q9 rfl Jb ?_
 refine Qn (Qc (Qa (Qh (Qb ?_))))
 refine Zm sv14 <| Zm va <| Qd (Yk (Rd.ofRest hra m15) Zo rfl) <| Qd (Jl ⟨_, Uu⟩ Yj rfl) <| Zm (i64 3) <| Qd (v := (i64 24)) (Vx 8 3) <| Qd (X9 (b := 24) rfl rfl oM) <| Qd (X7 ⟨_, Yj⟩ Vs rfl) <| Y9 (Qq u8 [((BitVec.ofInt 64 (la.length : Int)) >>> 24).setWidth 8] Qs m15 Zo Yw rfl rfl rfl) fun w16 b23_4 m16 => Vw (Xf (f := u8) (Hs := Hs14) (H := [_, _]) (Mem.pick [_] Hs14 _ m16) g14 rfl rfl (Rd.mkA m16.h0) Zo Zo Yw rfl Qs sD sD) ?_
 rintro sv17 w17 ⟨Hs17, m17, g17⟩
 replace g17 : Z5 u8 5 sv17 (((((nz ++ ([((BitVec.ofInt 64 (la.length : Int)) >>> 56).setWidth 8])) ++ ([((BitVec.ofInt 64 (la.length : Int)) >>> 48).setWidth 8])) ++ ([((BitVec.ofInt 64 (la.length : Int)) >>> 40).setWidth 8])) ++ ([((BitVec.ofInt 64 (la.length : Int)) >>> 32).setWidth 8])) ++ ([((BitVec.ofInt 64 (la.length : Int)) >>> 24).setWidth 8])) Hs17 := g17
 refine Zx sv17 ?_
 refine Zp (Qe ?_)
 have m18 := Mem.drop [_] _ (Mem.pick Hs17 [_] _ m17)
 refine CW.abs (fun g => g 0 = (agg u8 nz) ∧ g 1 = va ∧ g 2 = vc ∧ g 3 = (ptr b3 0) ∧ g 6 = Wl ∧ g 7 = sv17 ∧ g 8 = (i64 3) ∧ g 12 = (bl true) ∧ True) ⟨rfl, rfl, rfl, rfl, rfl, rfl, rfl, rfl, trivial⟩ ?_
 rintro fr19 ⟨s0, s1, s2, s3, s6, s7, s8, s12, _⟩
 refine Qb <| Yb s8 <| Qd (v := (i64 2)) (V4 3 1) <| Zx (i64 2) ?_
 refine rN (Zq (Qa (sR ?_)))
 refine Zm (i64 2) <| Qd (Ur 2 0) <| rN <| Q9 rfl Jb ?_
 refine Qn (Qc (Qa (Qh (Qb ?_))))
 refine Yb s7 <| Yb s1 <| Qd (Yk (Rd.ofRest hra m18) Zo rfl) <| Qd (Jl ⟨_, Uu⟩ Yj rfl) <| Zm (i64 2) <| Qd (v := (i64 16)) (Vx 8 2) <| Qd (X9 (b := 16) rfl rfl oM) <| Qd (X7 ⟨_, Yj⟩ Vs rfl) <| Y9 (Qq u8 [((BitVec.ofInt 64 (la.length : Int)) >>> 16).setWidth 8] Qs m18 Zo Yw rfl rfl rfl) fun w20 b23_5 m20 => Vw (Xf (f := u8) (Hs := Hs17) (H := [_, _]) (Mem.pick [_] Hs17 _ m20) g17 rfl rfl (Rd.mkA m20.h0) Zo Zo Yw rfl Qs sD sD) ?_
 rintro sv21 w21 ⟨Hs21, m21, g21⟩
 replace g21 : Z5 u8 5 sv21 ((((((nz ++ ([((BitVec.ofInt 64 (la.length : Int)) >>> 56).setWidth 8])) ++ ([((BitVec.ofInt 64 (la.length : Int)) >>> 48).setWidth 8])) ++ ([((BitVec.ofInt 64 (la.length : Int)) >>> 40).setWidth 8])) ++ ([((BitVec.ofInt 64 (la.length : Int)) >>> 32).setWidth 8])) ++ ([((BitVec.ofInt 64 (la.length : Int)) >>> 24).setWidth 8])) ++ ([((BitVec.ofInt 64 (la.length : Int)) >>> 16).setWidth 8])) Hs21 := g21
 refine Zx sv21 ?_
 refine Zp (Qe ?_)
 have m22 := Mem.drop [_] _ (Mem.pick Hs21 [_] _ m21)
 refine Qb <| Zm (i64 2) <| Qd (v := (i64 1)) (V4 2 1) <| Zx (i64 1) ?_
 refine rN (Zq (Qa (sR ?_)))
 refine Zm (i64 1) <| Qd (Ur 1 0) <| rN <| Q9 rfl Jb ?_
 refine Qn (Qc (Qa (Qh (Qb ?_))))
 refine Zm sv21 <| Yb s1 <| Qd (Yk (Rd.ofRest hra m22) Zo rfl) <| Qd (Jl ⟨_, Uu⟩ Yj rfl) <| Zm (i64 1) <| Qd (v := (i64 8)) (Vx 8 1) <| Qd (X9 (b := 8) rfl rfl oM) <| Qd (X7 ⟨_, Yj⟩ Vs rfl) <| Y9 (Qq u8 [((BitVec.ofInt 64 (la.length : Int)) >>> 8).setWidth 8] Qs m22 Zo Yw rfl rfl rfl) fun w23 b23_6 m23 => Vw (Xf (f := u8) (Hs := Hs21) (H := [_, _]) (Mem.pick [_] Hs21 _ m23) g21 rfl rfl (Rd.mkA m23.h0) Zo Zo Yw rfl Qs sD sD) ?_
 rintro sv24 w24 ⟨Hs24, m24, g24⟩
 replace g24 : Z5 u8 5 sv24 (((((((nz ++ ([((BitVec.ofInt 64 (la.length : Int)) >>> 56).setWidth 8])) ++ ([((BitVec.ofInt 64 (la.length : Int)) >>> 48).setWidth 8])) ++ ([((BitVec.ofInt 64 (la.length : Int)) >>> 40).setWidth 8])) ++ ([((BitVec.ofInt 64 (la.length : Int)) >>> 32).setWidth 8])) ++ ([((BitVec.ofInt 64 (la.length : Int)) >>> 24).setWidth 8])) ++ ([((BitVec.ofInt 64 (la.length : Int)) >>> 16).setWidth 8])) ++ ([((BitVec.ofInt 64 (la.length : Int)) >>> 8).setWidth 8])) Hs24 := g24
 refine Zx sv24 ?_
 refine Zp (Qe ?_)
 have m25 := Mem.drop [_] _ (Mem.pick Hs24 [_] _ m24)
 refine Qb <| Zm (i64 1) <| Qd (v := (i64 0)) (V4 1 1) <| Zx (i64 0) ?_
 refine rN (Zq (Qa (sR ?_)))
 refine Zm (i64 0) <| Qd (Ur 0 0) <| rN <| Q9 rfl Jb ?_
 refine Qn (Qc (Qa (Qh (Qb ?_))))
 refine Zm sv24 <| Yb s1 <| Qd (Yk (Rd.ofRest hra m25) Zo rfl) <| Qd (Jl ⟨_, Uu⟩ Yj rfl) <| Zm (i64 0) <| Qd (v := (i64 0)) (Vx 8 0) <| Qd (X9 (b := 0) rfl rfl oM) <| Qd (X7 ⟨_, Yj⟩ Vs rfl) <| Y9 (Qq u8 [((BitVec.ofInt 64 (la.length : Int)) >>> 0).setWidth 8] Qs m25 Zo Yw rfl rfl rfl) fun w26 b23_7 m26 => Vw (Xf (f := u8) (Hs := Hs24) (H := [_, _]) (Mem.pick [_] Hs24 _ m26) g24 rfl rfl (Rd.mkA m26.h0) Zo Zo Yw rfl Qs sD sD) ?_
 rintro sv27 w27 ⟨Hs27, m27, g27⟩
 replace g27 : Z5 u8 5 sv27 ((((((((nz ++ ([((BitVec.ofInt 64 (la.length : Int)) >>> 56).setWidth 8])) ++ ([((BitVec.ofInt 64 (la.length : Int)) >>> 48).setWidth 8])) ++ ([((BitVec.ofInt 64 (la.length : Int)) >>> 40).setWidth 8])) ++ ([((BitVec.ofInt 64 (la.length : Int)) >>> 32).setWidth 8])) ++ ([((BitVec.ofInt 64 (la.length : Int)) >>> 24).setWidth 8])) ++ ([((BitVec.ofInt 64 (la.length : Int)) >>> 16).setWidth 8])) ++ ([((BitVec.ofInt 64 (la.length : Int)) >>> 8).setWidth 8])) ++ ([((BitVec.ofInt 64 (la.length : Int)) >>> 0).setWidth 8])) Hs27 := g27
 refine Zx sv27 ?_
 refine Zp (Qe ?_)
 have m28 := Mem.drop [_] _ (Mem.pick Hs27 [_] _ m27)
 refine Qb <| Zm (i64 0) <| Qd (v := (i64 (-1))) (V4 0 1) <| Zx (i64 (-1)) ?_
 refine rN (Zq (Qa (sR ?_)))
 refine Zm (i64 (-1)) <| Qd (Ur (-1) 0) <| rN <| Ja rfl Jb <| X4 ?_
 refine Qj (Qj (Xi ?_))
 refine sR <| Zm sv27 <| Yb s1 <| Vw (Xf (f := u8) (Hs := Hs27) (H := [_]) m28 g27 rfl rfl (Rd.ofRest hra m28) Zo Zo Yw rfl Qs sD sD) ?_
 rintro sv29 w29 ⟨Hs29, m29, g29⟩
 replace g29 : Z5 u8 5 sv29 (((((((((nz ++ ([((BitVec.ofInt 64 (la.length : Int)) >>> 56).setWidth 8])) ++ ([((BitVec.ofInt 64 (la.length : Int)) >>> 48).setWidth 8])) ++ ([((BitVec.ofInt 64 (la.length : Int)) >>> 40).setWidth 8])) ++ ([((BitVec.ofInt 64 (la.length : Int)) >>> 32).setWidth 8])) ++ ([((BitVec.ofInt 64 (la.length : Int)) >>> 24).setWidth 8])) ++ ([((BitVec.ofInt 64 (la.length : Int)) >>> 16).setWidth 8])) ++ ([((BitVec.ofInt 64 (la.length : Int)) >>> 8).setWidth 8])) ++ ([((BitVec.ofInt 64 (la.length : Int)) >>> 0).setWidth 8])) ++ la) Hs29 := g29
 refine Yb s2 <| Vw (Xf (f := u8) (Hs := Hs29) (H := [_]) m29 g29 rfl rfl (Rd.ofRest hrc m29) Zo Zo Yw rfl Qs sD sD) ?_
 rintro sv30 w30 ⟨Hs30, m30, g30⟩
 replace g30 : Z5 u8 5 sv30 ((((((((((nz ++ ([((BitVec.ofInt 64 (la.length : Int)) >>> 56).setWidth 8])) ++ ([((BitVec.ofInt 64 (la.length : Int)) >>> 48).setWidth 8])) ++ ([((BitVec.ofInt 64 (la.length : Int)) >>> 40).setWidth 8])) ++ ([((BitVec.ofInt 64 (la.length : Int)) >>> 32).setWidth 8])) ++ ([((BitVec.ofInt 64 (la.length : Int)) >>> 24).setWidth 8])) ++ ([((BitVec.ofInt 64 (la.length : Int)) >>> 16).setWidth 8])) ++ ([((BitVec.ofInt 64 (la.length : Int)) >>> 8).setWidth 8])) ++ ([((BitVec.ofInt 64 (la.length : Int)) >>> 0).setWidth 8])) ++ la) ++ lc) Hs30 := g30
 refine Zx sv30 ?_
 refine rN (Zz ?_)
 refine Qp [sv30] ⟨rfl, trivial⟩ ?_
 have m31 := Mem.drop [_] _ (Mem.pick Hs30 [_] _ m30)
 have hfin : (((((((((nz ++ ([((BitVec.ofInt 64 (la.length : Int)) >>> 56).setWidth 8])) ++ ([((BitVec.ofInt 64 (la.length : Int)) >>> 48).setWidth 8])) ++ ([((BitVec.ofInt 64 (la.length : Int)) >>> 40).setWidth 8])) ++ ([((BitVec.ofInt 64 (la.length : Int)) >>> 32).setWidth 8])) ++ ([((BitVec.ofInt 64 (la.length : Int)) >>> 24).setWidth 8])) ++ ([((BitVec.ofInt 64 (la.length : Int)) >>> 16).setWidth 8])) ++ ([((BitVec.ofInt 64 (la.length : Int)) >>> 8).setWidth 8])) ++ ([((BitVec.ofInt 64 (la.length : Int)) >>> 0).setWidth 8])) ++ la) ++ lc = Uy nz la lc := by simp [Uy, len8]
 exact ⟨Hs30, hfin ▸ g30, by simpa using m31⟩
set_option maxHeartbeats 1000000 in
theorem Qj1 (nz : Z8) (va : Value) (la : Z8) (vc : Value) (lc : Z8) (w0 : World)  (hn : nz.length = 12) (hra : Rd (Y8 w0) u8 va la) (hla : la.length ≤ 1000000) (hrc : Rd (Y8 w0) u8 vc lc) (hlc : lc.length ≤ 1000000) : X0 prog 72 #[(agg u8 nz), va, vc] w0 (fun r w1 => ∃ Hs, Z5 u8 5 r (Uy nz la lc) Hs ∧ Mem w1 (Qr w0) Hs) := by
 refine Qy (args := [(agg u8 nz), va, vc]) func72 rfl ntmps72 results72 rfl ?_
 have m0 : Mem w0 (Qr w0) [] := Mem.of_world w0
 refine sR <| Y9 (Xc (f := u8) (l := nz) m0 rfl) fun w1 b3 m1 => Zx Wl ?_
 refine rN (sR ?_)
 refine Y9 (Qq u8 [] Qs m1 Zo Yw rfl (by simp [Ce]) rfl) fun w2 b9 m2 => Qd (Xk (i := 0) (j := 12) Po Yw rfl (Zd _ _) (Zd _ _) oM sD sD) <| Vw (Xf (f := u8) (Hs := [(b9, .cells (cl u8 ([])) 5 (0, 0))]) (H := [_]) m2 (Z5.of u8 5 b9 ([])) rfl rfl (Rd.slaAll m2.h1 sD) Zo Zo Yw rfl Qs sD sD) ?_
 rintro sv3 w3 ⟨Hs3, m3, g3⟩
 replace g3 : Z5 u8 5 sv3 nz Hs3 := g3
 refine Zx sv3 ?_
 refine rN (Qa (sR ?_))
 refine Zx (i64 7) ?_
 refine rN (Qh ?_)
 refine Vo 9 ?_
 refine Zq (Qa (sR ?_))
 refine Zm (i64 7) <| Qd (Ur 7 0) <| rN <| Q9 rfl Jb ?_
 refine Qn (Qc (Qa (Qh (Qb ?_))))
 refine Zm sv3 <| Zm va <| Qd (Yk (Rd.ofRest hra m3) Zo rfl) <| Qd (Jl ⟨_, Uu⟩ Yj rfl) <| Zm (i64 7) <| Qd (v := (i64 56)) (Vx 8 7) <| Qd (X9 (b := 56) rfl rfl oM) <| Qd (X7 ⟨_, Yj⟩ Vs rfl) <| Y9 (Qq u8 [((BitVec.ofInt 64 (la.length : Int)) >>> 56).setWidth 8] Qs m3 Zo Yw rfl rfl rfl) fun w4 b24 m4 => Vw (Xf (f := u8) (Hs := Hs3) (H := [_, _]) (Mem.pick [_] Hs3 _ m4) g3 rfl rfl (Rd.mkA m4.h0) Zo Zo Yw rfl Qs sD sD) ?_
 rintro sv5 w5 ⟨Hs5, m5, g5⟩
 replace g5 : Z5 u8 5 sv5 (nz ++ ([((BitVec.ofInt 64 (la.length : Int)) >>> 56).setWidth 8])) Hs5 := g5
 refine Zx sv5 ?_
 refine Zp (Qe ?_)
 have m6 := Mem.drop [_] _ (Mem.pick Hs5 [_] _ m5)
 refine Qb <| Zm (i64 7) <| Qd (v := (i64 6)) (V4 7 1) <| Zx (i64 6) ?_
 refine rN (Zq (Qa (sR ?_)))
 refine Zm (i64 6) <| Qd (Ur 6 0) <| rN <| Q9 rfl Jb ?_
 refine Qn (Qc (Qa (Qh (Qb ?_))))
 refine Zm sv5 <| Zm va <| Qd (Yk (Rd.ofRest hra m6) Zo rfl) <| Qd (Jl ⟨_, Uu⟩ Yj rfl) <| Zm (i64 6) <| Qd (v := (i64 48)) (Vx 8 6) <| Qd (X9 (b := 48) rfl rfl oM) <| Qd (X7 ⟨_, Yj⟩ Vs rfl) <| Y9 (Qq u8 [((BitVec.ofInt 64 (la.length : Int)) >>> 48).setWidth 8] Qs m6 Zo Yw rfl rfl rfl) fun w7 b24_1 m7 => Vw (Xf (f := u8) (Hs := Hs5) (H := [_, _]) (Mem.pick [_] Hs5 _ m7) g5 rfl rfl (Rd.mkA m7.h0) Zo Zo Yw rfl Qs sD sD) ?_
 rintro sv8 w8 ⟨Hs8, m8, g8⟩
 replace g8 : Z5 u8 5 sv8 ((nz ++ ([((BitVec.ofInt 64 (la.length : Int)) >>> 56).setWidth 8])) ++ ([((BitVec.ofInt 64 (la.length : Int)) >>> 48).setWidth 8])) Hs8 := g8
 refine Zx sv8 ?_
 refine Zp (Qe ?_)
 have m9 := Mem.drop [_] _ (Mem.pick Hs8 [_] _ m8)
 refine Qb <| Zm (i64 6) <| Qd (v := (i64 5)) (V4 6 1) <| Zx (i64 5) ?_
 refine rN (Zq (Qa (sR ?_)))
 refine Zm (i64 5) <| Qd (Ur 5 0) <| rN <| Q9 rfl Jb ?_
 refine Qn (Qc (Qa (Qh (Qb ?_))))
 refine Zm sv8 <| Zm va <| Qd (Yk (Rd.ofRest hra m9) Zo rfl) <| Qd (Jl ⟨_, Uu⟩ Yj rfl) <| Zm (i64 5) <| Qd (v := (i64 40)) (Vx 8 5) <| Qd (X9 (b := 40) rfl rfl oM) <| Qd (X7 ⟨_, Yj⟩ Vs rfl) <| Y9 (Qq u8 [((BitVec.ofInt 64 (la.length : Int)) >>> 40).setWidth 8] Qs m9 Zo Yw rfl rfl rfl) fun w10 b24_2 m10 => Vw (Xf (f := u8) (Hs := Hs8) (H := [_, _]) (Mem.pick [_] Hs8 _ m10) g8 rfl rfl (Rd.mkA m10.h0) Zo Zo Yw rfl Qs sD sD) ?_
 rintro sv11 w11 ⟨Hs11, m11, g11⟩
 replace g11 : Z5 u8 5 sv11 (((nz ++ ([((BitVec.ofInt 64 (la.length : Int)) >>> 56).setWidth 8])) ++ ([((BitVec.ofInt 64 (la.length : Int)) >>> 48).setWidth 8])) ++ ([((BitVec.ofInt 64 (la.length : Int)) >>> 40).setWidth 8])) Hs11 := g11
 refine Zx sv11 ?_
 refine Zp (Qe ?_)
 have m12 := Mem.drop [_] _ (Mem.pick Hs11 [_] _ m11)
 refine Qb <| Zm (i64 5) <| Qd (v := (i64 4)) (V4 5 1) <| Zx (i64 4) ?_
 refine rN (Zq (Qa (sR ?_)))
 refine Zm (i64 4) <| Qd (Ur 4 0) <| rN <| Q9 rfl Jb ?_
 refine Qn (Qc (Qa (Qh (Qb ?_))))
 refine Zm sv11 <| Zm va <| Qd (Yk (Rd.ofRest hra m12) Zo rfl) <| Qd (Jl ⟨_, Uu⟩ Yj rfl) <| Zm (i64 4) <| Qd (v := (i64 32)) (Vx 8 4) <| Qd (X9 (b := 32) rfl rfl oM) <| Qd (X7 ⟨_, Yj⟩ Vs rfl) <| Y9 (Qq u8 [((BitVec.ofInt 64 (la.length : Int)) >>> 32).setWidth 8] Qs m12 Zo Yw rfl rfl rfl) fun w13 b24_3 m13 => Vw (Xf (f := u8) (Hs := Hs11) (H := [_, _]) (Mem.pick [_] Hs11 _ m13) g11 rfl rfl (Rd.mkA m13.h0) Zo Zo Yw rfl Qs sD sD) ?_
 rintro sv14 w14 ⟨Hs14, m14, g14⟩
 replace g14 : Z5 u8 5 sv14 ((((nz ++ ([((BitVec.ofInt 64 (la.length : Int)) >>> 56).setWidth 8])) ++ ([((BitVec.ofInt 64 (la.length : Int)) >>> 48).setWidth 8])) ++ ([((BitVec.ofInt 64 (la.length : Int)) >>> 40).setWidth 8])) ++ ([((BitVec.ofInt 64 (la.length : Int)) >>> 32).setWidth 8])) Hs14 := g14
 refine Zx sv14 ?_
 refine Zp (Qe ?_)
 have m15 := Mem.drop [_] _ (Mem.pick Hs14 [_] _ m14)
 refine Qb <| Zm (i64 4) <| Qd (v := (i64 3)) (V4 4 1) <| Zx (i64 3) ?_
 refine rN (Zq (Qa (sR ?_)))
 refine Zm (i64 3) <| Qd (Ur 3 0) <| rN <| Q9 rfl Jb ?_
 refine Qn (Qc (Qa (Qh (Qb ?_))))
 refine Zm sv14 <| Zm va <| Qd (Yk (Rd.ofRest hra m15) Zo rfl) <| Qd (Jl ⟨_, Uu⟩ Yj rfl) <| Zm (i64 3) <| Qd (v := (i64 24)) (Vx 8 3) <| Qd (X9 (b := 24) rfl rfl oM) <| Qd (X7 ⟨_, Yj⟩ Vs rfl) <| Y9 (Qq u8 [((BitVec.ofInt 64 (la.length : Int)) >>> 24).setWidth 8] Qs m15 Zo Yw rfl rfl rfl) fun w16 b24_4 m16 => Vw (Xf (f := u8) (Hs := Hs14) (H := [_, _]) (Mem.pick [_] Hs14 _ m16) g14 rfl rfl (Rd.mkA m16.h0) Zo Zo Yw rfl Qs sD sD) ?_
 rintro sv17 w17 ⟨Hs17, m17, g17⟩
 replace g17 : Z5 u8 5 sv17 (((((nz ++ ([((BitVec.ofInt 64 (la.length : Int)) >>> 56).setWidth 8])) ++ ([((BitVec.ofInt 64 (la.length : Int)) >>> 48).setWidth 8])) ++ ([((BitVec.ofInt 64 (la.length : Int)) >>> 40).setWidth 8])) ++ ([((BitVec.ofInt 64 (la.length : Int)) >>> 32).setWidth 8])) ++ ([((BitVec.ofInt 64 (la.length : Int)) >>> 24).setWidth 8])) Hs17 := g17
 refine Zx sv17 ?_
 refine Zp (Qe ?_)
 have m18 := Mem.drop [_] _ (Mem.pick Hs17 [_] _ m17)
 refine CW.abs (fun g => g 0 = (agg u8 nz) ∧ g 1 = va ∧ g 2 = vc ∧ g 3 = (ptr b3 0) ∧ g 6 = Wl ∧ g 7 = sv17 ∧ g 8 = (i64 3) ∧ g 13 = (bl true) ∧ True) ⟨rfl, rfl, rfl, rfl, rfl, rfl, rfl, rfl, trivial⟩ ?_
 rintro fr19 ⟨s0, s1, s2, s3, s6, s7, s8, s13, _⟩
 refine Qb <| Yb s8 <| Qd (v := (i64 2)) (V4 3 1) <| Zx (i64 2) ?_
 refine rN (Zq (Qa (sR ?_)))
 refine Zm (i64 2) <| Qd (Ur 2 0) <| rN <| Q9 rfl Jb ?_
 refine Qn (Qc (Qa (Qh (Qb ?_))))
 refine Yb s7 <| Yb s1 <| Qd (Yk (Rd.ofRest hra m18) Zo rfl) <| Qd (Jl ⟨_, Uu⟩ Yj rfl) <| Zm (i64 2) <| Qd (v := (i64 16)) (Vx 8 2) <| Qd (X9 (b := 16) rfl rfl oM) <| Qd (X7 ⟨_, Yj⟩ Vs rfl) <| Y9 (Qq u8 [((BitVec.ofInt 64 (la.length : Int)) >>> 16).setWidth 8] Qs m18 Zo Yw rfl rfl rfl) fun w20 b24_5 m20 => Vw (Xf (f := u8) (Hs := Hs17) (H := [_, _]) (Mem.pick [_] Hs17 _ m20) g17 rfl rfl (Rd.mkA m20.h0) Zo Zo Yw rfl Qs sD sD) ?_
 rintro sv21 w21 ⟨Hs21, m21, g21⟩
 replace g21 : Z5 u8 5 sv21 ((((((nz ++ ([((BitVec.ofInt 64 (la.length : Int)) >>> 56).setWidth 8])) ++ ([((BitVec.ofInt 64 (la.length : Int)) >>> 48).setWidth 8])) ++ ([((BitVec.ofInt 64 (la.length : Int)) >>> 40).setWidth 8])) ++ ([((BitVec.ofInt 64 (la.length : Int)) >>> 32).setWidth 8])) ++ ([((BitVec.ofInt 64 (la.length : Int)) >>> 24).setWidth 8])) ++ ([((BitVec.ofInt 64 (la.length : Int)) >>> 16).setWidth 8])) Hs21 := g21
 refine Zx sv21 ?_
 refine Zp (Qe ?_)
 have m22 := Mem.drop [_] _ (Mem.pick Hs21 [_] _ m21)
 refine Qb <| Zm (i64 2) <| Qd (v := (i64 1)) (V4 2 1) <| Zx (i64 1) ?_
 refine rN (Zq (Qa (sR ?_)))
 refine Zm (i64 1) <| Qd (Ur 1 0) <| rN <| Q9 rfl Jb ?_
 refine Qn (Qc (Qa (Qh (Qb ?_))))
 refine Zm sv21 <| Yb s1 <| Qd (Yk (Rd.ofRest hra m22) Zo rfl) <| Qd (Jl ⟨_, Uu⟩ Yj rfl) <| Zm (i64 1) <| Qd (v := (i64 8)) (Vx 8 1) <| Qd (X9 (b := 8) rfl rfl oM) <| Qd (X7 ⟨_, Yj⟩ Vs rfl) <| Y9 (Qq u8 [((BitVec.ofInt 64 (la.length : Int)) >>> 8).setWidth 8] Qs m22 Zo Yw rfl rfl rfl) fun w23 b24_6 m23 => Vw (Xf (f := u8) (Hs := Hs21) (H := [_, _]) (Mem.pick [_] Hs21 _ m23) g21 rfl rfl (Rd.mkA m23.h0) Zo Zo Yw rfl Qs sD sD) ?_
 rintro sv24 w24 ⟨Hs24, m24, g24⟩
 replace g24 : Z5 u8 5 sv24 (((((((nz ++ ([((BitVec.ofInt 64 (la.length : Int)) >>> 56).setWidth 8])) ++ ([((BitVec.ofInt 64 (la.length : Int)) >>> 48).setWidth 8])) ++ ([((BitVec.ofInt 64 (la.length : Int)) >>> 40).setWidth 8])) ++ ([((BitVec.ofInt 64 (la.length : Int)) >>> 32).setWidth 8])) ++ ([((BitVec.ofInt 64 (la.length : Int)) >>> 24).setWidth 8])) ++ ([((BitVec.ofInt 64 (la.length : Int)) >>> 16).setWidth 8])) ++ ([((BitVec.ofInt 64 (la.length : Int)) >>> 8).setWidth 8])) Hs24 := g24
 refine Zx sv24 ?_
 refine Zp (Qe ?_)
 have m25 := Mem.drop [_] _ (Mem.pick Hs24 [_] _ m24)
 refine Qb <| Zm (i64 1) <| Qd (v := (i64 0)) (V4 1 1) <| Zx (i64 0) ?_
 refine rN (Zq (Qa (sR ?_)))
 refine Zm (i64 0) <| Qd (Ur 0 0) <| rN <| Q9 rfl Jb ?_
 refine Qn (Qc (Qa (Qh (Qb ?_))))
 refine Zm sv24 <| Yb s1 <| Qd (Yk (Rd.ofRest hra m25) Zo rfl) <| Qd (Jl ⟨_, Uu⟩ Yj rfl) <| Zm (i64 0) <| Qd (v := (i64 0)) (Vx 8 0) <| Qd (X9 (b := 0) rfl rfl oM) <| Qd (X7 ⟨_, Yj⟩ Vs rfl) <| Y9 (Qq u8 [((BitVec.ofInt 64 (la.length : Int)) >>> 0).setWidth 8] Qs m25 Zo Yw rfl rfl rfl) fun w26 b24_7 m26 => Vw (Xf (f := u8) (Hs := Hs24) (H := [_, _]) (Mem.pick [_] Hs24 _ m26) g24 rfl rfl (Rd.mkA m26.h0) Zo Zo Yw rfl Qs sD sD) ?_
 rintro sv27 w27 ⟨Hs27, m27, g27⟩
 replace g27 : Z5 u8 5 sv27 ((((((((nz ++ ([((BitVec.ofInt 64 (la.length : Int)) >>> 56).setWidth 8])) ++ ([((BitVec.ofInt 64 (la.length : Int)) >>> 48).setWidth 8])) ++ ([((BitVec.ofInt 64 (la.length : Int)) >>> 40).setWidth 8])) ++ ([((BitVec.ofInt 64 (la.length : Int)) >>> 32).setWidth 8])) ++ ([((BitVec.ofInt 64 (la.length : Int)) >>> 24).setWidth 8])) ++ ([((BitVec.ofInt 64 (la.length : Int)) >>> 16).setWidth 8])) ++ ([((BitVec.ofInt 64 (la.length : Int)) >>> 8).setWidth 8])) ++ ([((BitVec.ofInt 64 (la.length : Int)) >>> 0).setWidth 8])) Hs27 := g27
 refine Zx sv27 ?_
 refine Zp (Qe ?_)
 have m28 := Mem.drop [_] _ (Mem.pick Hs27 [_] _ m27)
 refine Qb <| Zm (i64 0) <| Qd (v := (i64 (-1))) (V4 0 1) <| Zx (i64 (-1)) ?_
 refine rN (Zq (Qa (sR ?_)))
 refine Zm (i64 (-1)) <| Qd (Ur (-1) 0) <| rN <| Ja rfl Jb <| X4 ?_
 refine Qj (Qj (Xi ?_))
 refine sR <| Zm sv27 <| Yb s1 <| Vw (Xf (f := u8) (Hs := Hs27) (H := [_]) m28 g27 rfl rfl (Rd.ofRest hra m28) Zo Zo Yw rfl Qs sD sD) ?_
 rintro sv29 w29 ⟨Hs29, m29, g29⟩
 replace g29 : Z5 u8 5 sv29 (((((((((nz ++ ([((BitVec.ofInt 64 (la.length : Int)) >>> 56).setWidth 8])) ++ ([((BitVec.ofInt 64 (la.length : Int)) >>> 48).setWidth 8])) ++ ([((BitVec.ofInt 64 (la.length : Int)) >>> 40).setWidth 8])) ++ ([((BitVec.ofInt 64 (la.length : Int)) >>> 32).setWidth 8])) ++ ([((BitVec.ofInt 64 (la.length : Int)) >>> 24).setWidth 8])) ++ ([((BitVec.ofInt 64 (la.length : Int)) >>> 16).setWidth 8])) ++ ([((BitVec.ofInt 64 (la.length : Int)) >>> 8).setWidth 8])) ++ ([((BitVec.ofInt 64 (la.length : Int)) >>> 0).setWidth 8])) ++ la) Hs29 := g29
 refine Zx sv29 ?_
 refine rN (sR ?_)
 refine Zm sv29 <| Yb s2 <| Vw (Xf (f := u8) (Hs := Hs29) (H := [_]) m29 g29 rfl rfl (Rd.ofRest hrc m29) Zo Zo Yw rfl Qs sD sD) ?_
 rintro sv30 w30 ⟨Hs30, m30, g30⟩
 replace g30 : Z5 u8 5 sv30 ((((((((((nz ++ ([((BitVec.ofInt 64 (la.length : Int)) >>> 56).setWidth 8])) ++ ([((BitVec.ofInt 64 (la.length : Int)) >>> 48).setWidth 8])) ++ ([((BitVec.ofInt 64 (la.length : Int)) >>> 40).setWidth 8])) ++ ([((BitVec.ofInt 64 (la.length : Int)) >>> 32).setWidth 8])) ++ ([((BitVec.ofInt 64 (la.length : Int)) >>> 24).setWidth 8])) ++ ([((BitVec.ofInt 64 (la.length : Int)) >>> 16).setWidth 8])) ++ ([((BitVec.ofInt 64 (la.length : Int)) >>> 8).setWidth 8])) ++ ([((BitVec.ofInt 64 (la.length : Int)) >>> 0).setWidth 8])) ++ la) ++ lc) Hs30 := g30
 refine Zx sv30 ?_
 refine rN (Zz ?_)
 refine Qp [sv30] ⟨rfl, trivial⟩ ?_
 have m31 := Mem.drop [_] _ (Mem.pick Hs30 [_] _ m30)
 have hfin : (((((((((nz ++ ([((BitVec.ofInt 64 (la.length : Int)) >>> 56).setWidth 8])) ++ ([((BitVec.ofInt 64 (la.length : Int)) >>> 48).setWidth 8])) ++ ([((BitVec.ofInt 64 (la.length : Int)) >>> 40).setWidth 8])) ++ ([((BitVec.ofInt 64 (la.length : Int)) >>> 32).setWidth 8])) ++ ([((BitVec.ofInt 64 (la.length : Int)) >>> 24).setWidth 8])) ++ ([((BitVec.ofInt 64 (la.length : Int)) >>> 16).setWidth 8])) ++ ([((BitVec.ofInt 64 (la.length : Int)) >>> 8).setWidth 8])) ++ ([((BitVec.ofInt 64 (la.length : Int)) >>> 0).setWidth 8])) ++ la) ++ lc = Uy nz la lc := by simp [Uy, len8]
 exact ⟨Hs30, hfin ▸ g30, by simpa using m31⟩
end Go.Proofs.YtkmiemlpfkfiiaaDoor
