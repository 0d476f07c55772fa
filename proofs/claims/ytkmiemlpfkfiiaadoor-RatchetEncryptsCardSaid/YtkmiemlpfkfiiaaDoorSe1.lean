/- Contracts: the seal, first part. Conditions: none beyond those that each theorem states. -/
import Derived.Test.YtkmiemlpfkfiiaaDoorKd3
import Derived.Test.YtkmiemlpfkfiiaaDoorFwP
namespace Go.Proofs.YtkmiemlpfkfiiaaDoor
set_option linter.unusedVariables false
set_option linter.unusedSimpArgs false
theorem manyK_ok {n : Int} (h0 : 0 ≤ n) (h1 : n ≤ 255) : Le n = n.toNat := by unfold Le badK; rw [if_neg (by simp; omega)]
theorem Sj {a b p : List (BitVec 8)} {n : Int} (h0 : 0 ≤ n) (h1 : n ≤ 255) : Jc a b p n = Uw n.toNat (J4 (Jm a b) p (32 * n.toNat)) := by unfold Jc; rw [manyK_ok h0 h1]
theorem Qhu {a b p : List (BitVec 8)} {n : Int} (h0 : 0 ≤ n) (h1 : n ≤ 255) : ((Jc a b p n).length : Int) = n := by rw [Sj h0 h1, Qa8]; omega
theorem Qbo {m k : Nat} {L : List (BitVec 8)} (h : k < m) (hL : L.length = 32 * m) : ((Uw m L).getD k []).length = 32 := by
 unfold Uw
 simp [List.getD_eq_getElem?_getD, h]; omega
def V7 (key : List (BitVec 8)) : List (BitVec 8) := (Jc [] key (Yw ⟨#[115, 101, 97, 108]⟩) 2).getD 0 []
def Ad (key : List (BitVec 8)) : List (BitVec 8) := (Jc [] key (Yw ⟨#[115, 101, 97, 108]⟩) 2).getD 1 []
theorem Qdb (key : List (BitVec 8)) : (V7 key).length = 32 := by
 unfold V7; rw [Sj (by decide) (by decide)]; exact Qbo (by decide) (by rw [U4])
theorem Qdc (key : List (BitVec 8)) : (Ad key).length = 32 := by
 unfold Ad; rw [Sj (by decide) (by decide)]; exact Qbo (by decide) (by rw [U4])
def len8 (n : Int) : List (BitVec 8) := [(BitVec.ofInt 64 n >>> 56).setWidth 8, (BitVec.ofInt 64 n >>> 48).setWidth 8, (BitVec.ofInt 64 n >>> 40).setWidth 8, (BitVec.ofInt 64 n >>> 32).setWidth 8,
 (BitVec.ofInt 64 n >>> 24).setWidth 8, (BitVec.ofInt 64 n >>> 16).setWidth 8, (BitVec.ofInt 64 n >>> 8).setWidth 8, (BitVec.ofInt 64 n >>> 0).setWidth 8]
@[simp] theorem Qj5 (n : Int) : (len8 n).length = 8 := rfl
def Dj (nonce beside cipher : List (BitVec 8)) : List (BitVec 8) := nonce ++ len8 (beside.length : Int) ++ beside ++ cipher
@[simp] theorem Qaz (nonce beside cipher : List (BitVec 8)) : (Dj nonce beside cipher).length = nonce.length + 8 + beside.length + cipher.length := by simp only [Dj, List.length_append, Qj5]
def tagP (key nonce beside cipher : List (BitVec 8)) : List (BitVec 8) := X7 (Ad key) (Dj nonce beside cipher)
@[simp] theorem tagP_length (key nonce beside cipher : List (BitVec 8)) : (tagP key nonce beside cipher).length = 32 := Wu _ _
def Py (key nonce plain : List (BitVec 8)) : List (BitVec 8) := Jb Yx (V7 key) 1#32 nonce plain
@[simp] theorem Qa6 (key nonce plain : List (BitVec 8)) : (Py key nonce plain).length = plain.length := Ba _ _ _ _ _
theorem Qmz (key nonce plain : List (BitVec 8)) : Jb Wq (V7 key) 1#32 nonce plain = Py key nonce plain := by unfold Py; exact (Qnd _ _ _ _).symm
def Vw (key nonce beside plain : List (BitVec 8)) : List (BitVec 8) := Py key nonce plain ++ tagP key nonce beside (Py key nonce plain)
@[simp] theorem A8 (key nonce beside plain : List (BitVec 8)) : (Vw key nonce beside plain).length = plain.length + 32 := by simp [Vw]
attribute [local irreducible] X7 tK Qce J4 Jm Jc Aw Qdj Qby Jb Yx Wq
theorem c_skeys (key : List (BitVec 8)) (w0 : World)  (hT : Tabs (Yq w0)) (hk : key.length = 32) : Xz Tryd.prog 60 #[(agg u8 key)] w0 (fun r w1 => r = (Value.tuple #[(agg u8 (V7 key)), (agg u8 (Ad key))]) ∧ Ext w0 w1) := by
 refine Zd (args := [(agg u8 key)]) Tryd.func60 rfl Tryd.ntmps60 Tryd.results60 rfl ?_
 have m0 : Mem w0 (Qy w0) [] := Mem.of_world w0
 have hkl := Qhu (a := []) (b := key) (p := Yw ⟨#[115, 101, 97, 108]⟩) (n := 2) (by decide) (by decide)
 have hk0 : ((Jc [] key (Yw ⟨#[115, 101, 97, 108]⟩) 2).getD 0 []).length = 32 := Qdb key
 have hk1 : ((Jc [] key (Yw ⟨#[115, 101, 97, 108]⟩) 2).getD 1 []).length = 32 := Qdc key
 refine sR <| Za rfl (Z8 (f := u8) (l := key) m0 rfl) ?_
 rintro _ w1 ⟨b1, rfl, e1, m1⟩
 refine Za rfl (Zg m1 Z9) ?_
 rintro _ w2 ⟨b2, rfl, e2, m2⟩
 refine Za rfl (Zg m2 Z9) ?_
 rintro _ w3 ⟨b3, rfl, e3, m3⟩
 refine rN (sR ?_)
 refine Qa rfl (Xj (i := 0) (j := 32) X3 X6 rfl (Zy _ _) (Zy _ _) oM sD sD) <| Za rfl (oc73 (Qev rfl rfl rfl rfl) (c_keys (Value.slice none 0 0) ([]) (sla b1 0 1 0 32 32) key (⟨#[115, 101, 97, 108]⟩) _ _ (hT.mono fun b o e => (m3).rest b o e) (Rd.nil _ _) sD (Rd.slaAll m3.h2 sD) sD sD sD)) ?_
 rintro _ w4 ⟨vxq5, Hsq5, rfl, gvxq5, k_w4⟩
 have m4 : Mem _ _ (Hsq5 ++ ([_, _, _])) := Mem.new (H := [_, _, _]) (H' := Hsq5) m3 k_w4
 refine Qa rfl (Qb (v := (Value.tuple #[vxq5, (i64 (Qdj (2 : Int)))])) rfl) <| Qa (v := vxq5) rfl (Zo rfl rfl) <| Qa (v := (i64 (Qdj (2 : Int)))) rfl (Zo rfl rfl) <| rA rfl (v := vxq5) rfl <| Qa rfl (Qc (v := (i64 (Qdj (2 : Int)))) rfl) ?_
 refine rN (Qg ?_)
 refine Jz (by kernel_rfl) ?_
 have m6 := (Mem.pick2 Hsq5 [_, _] [_] _ m4)
 have m7 := (Mem.pick2 [_] Hsq5 [_] _ m6)
 have m8 := (Mem.pick [_, _] Hsq5 _ m7)
 have m9 := (Mem.pick2 Hsq5 [_, _] [_] _ m8)
 have hFM10 : Mem w4 (Qy w0) ([(b2, .cells (cl u8 (List.replicate 32 0)) 23 (0, 0))] ++ (Hsq5 ++ ([(b3, .cells (cl u8 (List.replicate 32 0)) 23 (0, 0)), (b1, .cells (cl u8 key) 23 (0, 0))]))) := m9
 obtain ⟨RM10, hRM10⟩ : ∃ R2, R2 = Rest.add (Qy w0) (Hsq5 ++ ([(b3, .cells (cl u8 (List.replicate 32 0)) 23 (0, 0)), (b1, .cells (cl u8 key) 23 (0, 0))])) := ⟨_, rfl⟩
 have M100 : Mem w4 RM10 [(b2, .cells (cl u8 (List.replicate 32 0)) 23 (0, 0))] := by rw [hRM10]; exact Mem.give hFM10
 have hg11 : RdK RM10.blk (Ug u8) 32 vxq5 (Jc ([]) key (Yw (⟨#[115, 101, 97, 108]⟩)) (2 : Int)) := gvxq5.rdIn (fun p hp => by rw [hRM10]; exact Mem.addOwn hFM10 (List.mem_append_left _ hp))
 have ho12 : RM10.blk b3 = some (.cells (cl u8 (List.replicate 32 0)) 23 (0, 0)) := by rw [hRM10]; exact Mem.addOwn hFM10 (List.mem_append_right _ (List.Mem.head _))
 have ho13 : RM10.blk b1 = some (.cells (cl u8 key) 23 (0, 0)) := by rw [hRM10]; exact Mem.addOwn hFM10 (List.mem_append_right _ (List.Mem.tail _ (List.Mem.head _)))
 have hT14 : Tabs RM10.blk := by rw [hRM10]; exact Tabs.mono hT fun b o e => Mem.addRest hFM10 e
 refine Ju M100 [(0, false), (1, false), (2, false), (3, false), (4, false), (5, false), (6, true)] 7 rfl (by kernel_rfl) <| Xu rfl rfl (fun w _H _hx => Qb (v := vxq5) rfl) <| Xu rfl rfl (fun w _H _hx => Ym (i := 0) (RdK.ofRest hg11 _hx) Qbt Z9 rfl rfl oM sD) <| Xu (v := (agg u8 ((Jc ([]) key (Yw (⟨#[115, 101, 97, 108]⟩)) (2 : Int)).getD 0 []))) rfl rfl (fun w _H _hx => Em (i := (0 : Int)) (RdK.ofRest hg11 _hx) sD X3 Z9 rfl rfl) <| Xu rfl rfl (fun w _H _hx => Qb (v := vxq5) rfl) <| Xu rfl rfl (fun w _H _hx => Ym (i := 1) (RdK.ofRest hg11 _hx) Qbt Z9 rfl rfl oM sD) <| Xu (v := (agg u8 ((Jc ([]) key (Yw (⟨#[115, 101, 97, 108]⟩)) (2 : Int)).getD 1 []))) rfl rfl (fun w _H _hx => Em (i := (1 : Int)) (RdK.ofRest hg11 _hx) sD X3 Z9 rfl rfl) ?_
 refine Bh rfl (fun w15 e15 => ?_)
 have m15 := M100.ext e15
 refine Yz.mono (Qm (f := u8) (l := (Jc ([]) key (Yw (⟨#[115, 101, 97, 108]⟩)) (2 : Int)).getD 0 []) Qu Z9 rfl rfl sD m15.h0 sZ rfl) ?_
 rintro _ w16 uq16
 have m16 := m15.upd0 uq16
 refine ⟨⟨_, m16⟩, ?_⟩
 refine Xd (fun w17 e17 => ?_)
 have m17 := m16.ext e17
 have hX18 := m17
 rw [hRM10] at hX18
 have m19 : Mem w17 (Qy w0) ([(b2, .cells (cl u8 ((Jc ([]) key (Yw (⟨#[115, 101, 97, 108]⟩)) (2 : Int)).getD 0 [])) 23 (0, 0))] ++ (Hsq5 ++ ([(b3, .cells (cl u8 (List.replicate 32 0)) 23 (0, 0)), (b1, .cells (cl u8 key) 23 (0, 0))]))) := (by
  have hT := Mem.back hFM10 hX18
  try simp only [List.append_assoc, List.cons_append, List.nil_append, List.append_nil] at hT ⊢
  exact hT)
 refine Zw (Qm (f := u8) (l := (Jc ([]) key (Yw (⟨#[115, 101, 97, 108]⟩)) (2 : Int)).getD 1 []) Qu Z9 rfl rfl sD ((Mem.pick2 [_] Hsq5 [_] _ m19)).h0 sZ rfl) ?_
 rintro _ w20 uq20
 have m20 : Mem _ _ ([_, _] ++ (Hsq5 ++ ([_]))) := Mem.upd0 (Mem.pick2 [_] Hsq5 [_] _ m19) uq20
 refine rN (Xt ?_)
 refine Ze [(agg u8 ((Jc ([]) key (Yw (⟨#[115, 101, 97, 108]⟩)) (2 : Int)).getD 0 [])), (agg u8 ((Jc ([]) key (Yw (⟨#[115, 101, 97, 108]⟩)) (2 : Int)).getD 1 []))] ⟨⟨_, rfl, Xo X3 rfl Z9 m20.h1 sZ⟩, ⟨_, rfl, Xo X3 rfl Z9 m20.h0 sZ⟩, trivial⟩ ?_
 exact ⟨rfl, m20.toExt⟩
set_option maxHeartbeats 1000000 in
theorem Qea (nonce : List (BitVec 8)) (va : Value) (la : List (BitVec 8)) (vc : Value) (lc : List (BitVec 8)) (w0 : World)  (hn : nonce.length = 12) (hra : Rd (Yq w0) u8 va la) (hla : la.length ≤ 1000000) (hrc : Rd (Yq w0) u8 vc lc) (hlc : lc.length ≤ 1000000) : Xz Tryd.prog 62 #[(agg u8 nonce), va, vc] w0 (fun r w1 => ∃ Hs, Zv u8 5 r (Dj nonce la lc) Hs ∧ Mem w1 (Qy w0) Hs) := by
 refine Zd (args := [(agg u8 nonce), va, vc]) Tryd.func62 rfl Tryd.ntmps62 Tryd.results62 rfl ?_
 have m0 : Mem w0 (Qy w0) [] := Mem.of_world w0
 refine sR <| Za rfl (Z8 (f := u8) (l := nonce) m0 rfl) ?_
 rintro _ w1 ⟨b3, rfl, e1, m1⟩
 refine Qa rfl (Qc (v := (Value.slice none 0 0)) rfl) ?_
 refine rN (sR ?_)
 refine Qa rfl (Xj (i := 0) (j := 12) Qah X6 rfl (Zy _ _) (Zy _ _) oM sD sD) <| Za rfl (oc34 (Jj rfl) (Qdn (sla b3 0 1 0 12 12) nonce _ (Rd.slaAll m1.h0 sD) sD)) ?_
 rintro rq3 w2 ⟨Hsq3, grq3, k_w2⟩
 have m2 : Mem _ _ (Hsq3 ++ ([_])) := Mem.new (H := [_]) (H' := Hsq3) m1 k_w2
 refine rA rfl (v := rq3) rfl ?_
 refine rN (Qg (sR ?_))
 refine Qa rfl (Qc (v := (i64 7)) rfl) ?_
 refine rN (Qo ?_)
 refine Kw 9 ?_
 refine Zq (Qg (sR ?_))
 refine Qa rfl (Qb (v := (i64 7)) rfl) <| Qa rfl (X5 (a := 7) (b := 0) rfl rfl) <| rN <| Zc rfl (by decide) ?_
 refine Q7 (Qh (Qg (Qo (Qe ?_))))
 refine rM rfl (v := rq3) rfl <| rM rfl (v := va) rfl <| Qa rfl (Ye (Rd.ofRest hra m2) Zi rfl) <| Qa rfl (Yv ⟨_, Fj⟩ X4 rfl) <| Qa rfl (Qb (v := (i64 7)) rfl) <| Qa (v := (i64 56)) rfl (Z7 (a := 8) (b := 7) rfl rfl oM oM) <| Qa rfl (Xy (b := 56) rfl rfl oM) <| Qa rfl (Xw ⟨_, X4⟩ Vm rfl) <| Za rfl (Ql u8 [((BitVec.ofInt 64 (la.length : Int)) >>> 56).setWidth 8] Qu m2 Zi X6 rfl rfl rfl) ?_
 rintro _ w4 ⟨b23, rfl, e4, m4⟩
 refine Za rfl (Zk (f := u8) (Hs := Hsq3) (H := [_, _]) (Mem.pick [_] Hsq3 _ m4) grq3 rfl rfl (Rd.mkA m4.h0) Zi Zi X6 rfl Qu sD sD) ?_
 rintro sv5 w5 ⟨Hs5, m5, g5⟩
 replace g5 : Zv u8 5 sv5 (nonce ++ ([((BitVec.ofInt 64 (la.length : Int)) >>> 56).setWidth 8])) Hs5 := g5
 refine rA rfl (v := sv5) rfl ?_
 refine Zr (Qi ?_)
 have m6 := Mem.drop [_] _ (Mem.pick Hs5 [_] _ m5)
 refine Qe <| Qa rfl (Qb (v := (i64 7)) rfl) <| Qa (v := (i64 6)) rfl (Zp (a := 7) (b := 1) rfl rfl oM oM) <| Qa rfl (Qc (v := (i64 6)) rfl) ?_
 refine rN (Zq (Qg (sR ?_)))
 refine Qa rfl (Qb (v := (i64 6)) rfl) <| Qa rfl (X5 (a := 6) (b := 0) rfl rfl) <| rN <| Zc rfl (by decide) ?_
 refine Q7 (Qh (Qg (Qo (Qe ?_))))
 refine rM rfl (v := sv5) rfl <| rM rfl (v := va) rfl <| Qa rfl (Ye (Rd.ofRest hra m6) Zi rfl) <| Qa rfl (Yv ⟨_, Fj⟩ X4 rfl) <| Qa rfl (Qb (v := (i64 6)) rfl) <| Qa (v := (i64 48)) rfl (Z7 (a := 8) (b := 6) rfl rfl oM oM) <| Qa rfl (Xy (b := 48) rfl rfl oM) <| Qa rfl (Xw ⟨_, X4⟩ Vm rfl) <| Za rfl (Ql u8 [((BitVec.ofInt 64 (la.length : Int)) >>> 48).setWidth 8] Qu m6 Zi X6 rfl rfl rfl) ?_
 rintro _ w7 ⟨b23_1, rfl, e7, m7⟩
 refine Za rfl (Zk (f := u8) (Hs := Hs5) (H := [_, _]) (Mem.pick [_] Hs5 _ m7) g5 rfl rfl (Rd.mkA m7.h0) Zi Zi X6 rfl Qu sD sD) ?_
 rintro sv8 w8 ⟨Hs8, m8, g8⟩
 replace g8 : Zv u8 5 sv8 ((nonce ++ ([((BitVec.ofInt 64 (la.length : Int)) >>> 56).setWidth 8])) ++ ([((BitVec.ofInt 64 (la.length : Int)) >>> 48).setWidth 8])) Hs8 := g8
 refine rA rfl (v := sv8) rfl ?_
 refine Zr (Qi ?_)
 have m9 := Mem.drop [_] _ (Mem.pick Hs8 [_] _ m8)
 refine Qe <| Qa rfl (Qb (v := (i64 6)) rfl) <| Qa (v := (i64 5)) rfl (Zp (a := 6) (b := 1) rfl rfl oM oM) <| Qa rfl (Qc (v := (i64 5)) rfl) ?_
 refine rN (Zq (Qg (sR ?_)))
 refine Qa rfl (Qb (v := (i64 5)) rfl) <| Qa rfl (X5 (a := 5) (b := 0) rfl rfl) <| rN <| Zc rfl (by decide) ?_
 refine Q7 (Qh (Qg (Qo (Qe ?_))))
 refine rM rfl (v := sv8) rfl <| rM rfl (v := va) rfl <| Qa rfl (Ye (Rd.ofRest hra m9) Zi rfl) <| Qa rfl (Yv ⟨_, Fj⟩ X4 rfl) <| Qa rfl (Qb (v := (i64 5)) rfl) <| Qa (v := (i64 40)) rfl (Z7 (a := 8) (b := 5) rfl rfl oM oM) <| Qa rfl (Xy (b := 40) rfl rfl oM) <| Qa rfl (Xw ⟨_, X4⟩ Vm rfl) <| Za rfl (Ql u8 [((BitVec.ofInt 64 (la.length : Int)) >>> 40).setWidth 8] Qu m9 Zi X6 rfl rfl rfl) ?_
 rintro _ w10 ⟨b23_2, rfl, e10, m10⟩
 refine Za rfl (Zk (f := u8) (Hs := Hs8) (H := [_, _]) (Mem.pick [_] Hs8 _ m10) g8 rfl rfl (Rd.mkA m10.h0) Zi Zi X6 rfl Qu sD sD) ?_
 rintro sv11 w11 ⟨Hs11, m11, g11⟩
 replace g11 : Zv u8 5 sv11 (((nonce ++ ([((BitVec.ofInt 64 (la.length : Int)) >>> 56).setWidth 8])) ++ ([((BitVec.ofInt 64 (la.length : Int)) >>> 48).setWidth 8])) ++ ([((BitVec.ofInt 64 (la.length : Int)) >>> 40).setWidth 8])) Hs11 := g11
 refine rA rfl (v := sv11) rfl ?_
 refine Zr (Qi ?_)
 have m12 := Mem.drop [_] _ (Mem.pick Hs11 [_] _ m11)
 refine Qe <| Qa rfl (Qb (v := (i64 5)) rfl) <| Qa (v := (i64 4)) rfl (Zp (a := 5) (b := 1) rfl rfl oM oM) <| Qa rfl (Qc (v := (i64 4)) rfl) ?_
 refine rN (Zq (Qg (sR ?_)))
 refine Qa rfl (Qb (v := (i64 4)) rfl) <| Qa rfl (X5 (a := 4) (b := 0) rfl rfl) <| rN <| Zc rfl (by decide) ?_
 refine Q7 (Qh (Qg (Qo (Qe ?_))))
 refine rM rfl (v := sv11) rfl <| rM rfl (v := va) rfl <| Qa rfl (Ye (Rd.ofRest hra m12) Zi rfl) <| Qa rfl (Yv ⟨_, Fj⟩ X4 rfl) <| Qa rfl (Qb (v := (i64 4)) rfl) <| Qa (v := (i64 32)) rfl (Z7 (a := 8) (b := 4) rfl rfl oM oM) <| Qa rfl (Xy (b := 32) rfl rfl oM) <| Qa rfl (Xw ⟨_, X4⟩ Vm rfl) <| Za rfl (Ql u8 [((BitVec.ofInt 64 (la.length : Int)) >>> 32).setWidth 8] Qu m12 Zi X6 rfl rfl rfl) ?_
 rintro _ w13 ⟨b23_3, rfl, e13, m13⟩
 refine Za rfl (Zk (f := u8) (Hs := Hs11) (H := [_, _]) (Mem.pick [_] Hs11 _ m13) g11 rfl rfl (Rd.mkA m13.h0) Zi Zi X6 rfl Qu sD sD) ?_
 rintro sv14 w14 ⟨Hs14, m14, g14⟩
 replace g14 : Zv u8 5 sv14 ((((nonce ++ ([((BitVec.ofInt 64 (la.length : Int)) >>> 56).setWidth 8])) ++ ([((BitVec.ofInt 64 (la.length : Int)) >>> 48).setWidth 8])) ++ ([((BitVec.ofInt 64 (la.length : Int)) >>> 40).setWidth 8])) ++ ([((BitVec.ofInt 64 (la.length : Int)) >>> 32).setWidth 8])) Hs14 := g14
 refine rA rfl (v := sv14) rfl ?_
 refine Zr (Qi ?_)
 have m15 := Mem.drop [_] _ (Mem.pick Hs14 [_] _ m14)
 refine Qe <| Qa rfl (Qb (v := (i64 4)) rfl) <| Qa (v := (i64 3)) rfl (Zp (a := 4) (b := 1) rfl rfl oM oM) <| Qa rfl (Qc (v := (i64 3)) rfl) ?_
 refine rN (Zq (Qg (sR ?_)))
 refine Qa rfl (Qb (v := (i64 3)) rfl) <| Qa rfl (X5 (a := 3) (b := 0) rfl rfl) <| rN <| Zc rfl (by decide) ?_
 refine Q7 (Qh (Qg (Qo (Qe ?_))))
 refine rM rfl (v := sv14) rfl <| rM rfl (v := va) rfl <| Qa rfl (Ye (Rd.ofRest hra m15) Zi rfl) <| Qa rfl (Yv ⟨_, Fj⟩ X4 rfl) <| Qa rfl (Qb (v := (i64 3)) rfl) <| Qa (v := (i64 24)) rfl (Z7 (a := 8) (b := 3) rfl rfl oM oM) <| Qa rfl (Xy (b := 24) rfl rfl oM) <| Qa rfl (Xw ⟨_, X4⟩ Vm rfl) <| Za rfl (Ql u8 [((BitVec.ofInt 64 (la.length : Int)) >>> 24).setWidth 8] Qu m15 Zi X6 rfl rfl rfl) ?_
 rintro _ w16 ⟨b23_4, rfl, e16, m16⟩
 refine Za rfl (Zk (f := u8) (Hs := Hs14) (H := [_, _]) (Mem.pick [_] Hs14 _ m16) g14 rfl rfl (Rd.mkA m16.h0) Zi Zi X6 rfl Qu sD sD) ?_
 rintro sv17 w17 ⟨Hs17, m17, g17⟩
 replace g17 : Zv u8 5 sv17 (((((nonce ++ ([((BitVec.ofInt 64 (la.length : Int)) >>> 56).setWidth 8])) ++ ([((BitVec.ofInt 64 (la.length : Int)) >>> 48).setWidth 8])) ++ ([((BitVec.ofInt 64 (la.length : Int)) >>> 40).setWidth 8])) ++ ([((BitVec.ofInt 64 (la.length : Int)) >>> 32).setWidth 8])) ++ ([((BitVec.ofInt 64 (la.length : Int)) >>> 24).setWidth 8])) Hs17 := g17
 refine rA rfl (v := sv17) rfl ?_
 refine Zr (Qi ?_)
 have m18 := Mem.drop [_] _ (Mem.pick Hs17 [_] _ m17)
 refine CW.abs (fun g => g 0 = (agg u8 nonce) ∧ g 1 = va ∧ g 2 = vc ∧ g 3 = (ptr b3 0) ∧ g 6 = (Value.slice none 0 0) ∧ g 7 = sv17 ∧ g 8 = (i64 3) ∧ g 12 = (bl true) ∧ True) ⟨rfl, rfl, rfl, rfl, rfl, rfl, rfl, rfl, trivial⟩ ?_
 rintro fr19 ⟨s0, s1, s2, s3, s6, s7, s8, s12, _⟩
 refine Qe <| rM rfl s8 <| Qa (v := (i64 2)) rfl (Zp (a := 3) (b := 1) rfl rfl oM oM) <| Qa rfl (Qc (v := (i64 2)) rfl) ?_
 refine rN (Zq (Qg (sR ?_)))
 refine Qa rfl (Qb (v := (i64 2)) rfl) <| Qa rfl (X5 (a := 2) (b := 0) rfl rfl) <| rN <| Zc rfl (by decide) ?_
 refine Q7 (Qh (Qg (Qo (Qe ?_))))
 refine rM rfl s7 <| rM rfl s1 <| Qa rfl (Ye (Rd.ofRest hra m18) Zi rfl) <| Qa rfl (Yv ⟨_, Fj⟩ X4 rfl) <| Qa rfl (Qb (v := (i64 2)) rfl) <| Qa (v := (i64 16)) rfl (Z7 (a := 8) (b := 2) rfl rfl oM oM) <| Qa rfl (Xy (b := 16) rfl rfl oM) <| Qa rfl (Xw ⟨_, X4⟩ Vm rfl) <| Za rfl (Ql u8 [((BitVec.ofInt 64 (la.length : Int)) >>> 16).setWidth 8] Qu m18 Zi X6 rfl rfl rfl) ?_
 rintro _ w20 ⟨b23_5, rfl, e20, m20⟩
 refine Za rfl (Zk (f := u8) (Hs := Hs17) (H := [_, _]) (Mem.pick [_] Hs17 _ m20) g17 rfl rfl (Rd.mkA m20.h0) Zi Zi X6 rfl Qu sD sD) ?_
 rintro sv21 w21 ⟨Hs21, m21, g21⟩
 replace g21 : Zv u8 5 sv21 ((((((nonce ++ ([((BitVec.ofInt 64 (la.length : Int)) >>> 56).setWidth 8])) ++ ([((BitVec.ofInt 64 (la.length : Int)) >>> 48).setWidth 8])) ++ ([((BitVec.ofInt 64 (la.length : Int)) >>> 40).setWidth 8])) ++ ([((BitVec.ofInt 64 (la.length : Int)) >>> 32).setWidth 8])) ++ ([((BitVec.ofInt 64 (la.length : Int)) >>> 24).setWidth 8])) ++ ([((BitVec.ofInt 64 (la.length : Int)) >>> 16).setWidth 8])) Hs21 := g21
 refine rA rfl (v := sv21) rfl ?_
 refine Zr (Qi ?_)
 have m22 := Mem.drop [_] _ (Mem.pick Hs21 [_] _ m21)
 refine Qe <| Qa rfl (Qb (v := (i64 2)) rfl) <| Qa (v := (i64 1)) rfl (Zp (a := 2) (b := 1) rfl rfl oM oM) <| Qa rfl (Qc (v := (i64 1)) rfl) ?_
 refine rN (Zq (Qg (sR ?_)))
 refine Qa rfl (Qb (v := (i64 1)) rfl) <| Qa rfl (X5 (a := 1) (b := 0) rfl rfl) <| rN <| Zc rfl (by decide) ?_
 refine Q7 (Qh (Qg (Qo (Qe ?_))))
 refine rM rfl (v := sv21) rfl <| rM rfl s1 <| Qa rfl (Ye (Rd.ofRest hra m22) Zi rfl) <| Qa rfl (Yv ⟨_, Fj⟩ X4 rfl) <| Qa rfl (Qb (v := (i64 1)) rfl) <| Qa (v := (i64 8)) rfl (Z7 (a := 8) (b := 1) rfl rfl oM oM) <| Qa rfl (Xy (b := 8) rfl rfl oM) <| Qa rfl (Xw ⟨_, X4⟩ Vm rfl) <| Za rfl (Ql u8 [((BitVec.ofInt 64 (la.length : Int)) >>> 8).setWidth 8] Qu m22 Zi X6 rfl rfl rfl) ?_
 rintro _ w23 ⟨b23_6, rfl, e23, m23⟩
 refine Za rfl (Zk (f := u8) (Hs := Hs21) (H := [_, _]) (Mem.pick [_] Hs21 _ m23) g21 rfl rfl (Rd.mkA m23.h0) Zi Zi X6 rfl Qu sD sD) ?_
 rintro sv24 w24 ⟨Hs24, m24, g24⟩
 replace g24 : Zv u8 5 sv24 (((((((nonce ++ ([((BitVec.ofInt 64 (la.length : Int)) >>> 56).setWidth 8])) ++ ([((BitVec.ofInt 64 (la.length : Int)) >>> 48).setWidth 8])) ++ ([((BitVec.ofInt 64 (la.length : Int)) >>> 40).setWidth 8])) ++ ([((BitVec.ofInt 64 (la.length : Int)) >>> 32).setWidth 8])) ++ ([((BitVec.ofInt 64 (la.length : Int)) >>> 24).setWidth 8])) ++ ([((BitVec.ofInt 64 (la.length : Int)) >>> 16).setWidth 8])) ++ ([((BitVec.ofInt 64 (la.length : Int)) >>> 8).setWidth 8])) Hs24 := g24
 refine rA rfl (v := sv24) rfl ?_
 refine Zr (Qi ?_)
 have m25 := Mem.drop [_] _ (Mem.pick Hs24 [_] _ m24)
 refine Qe <| Qa rfl (Qb (v := (i64 1)) rfl) <| Qa (v := (i64 0)) rfl (Zp (a := 1) (b := 1) rfl rfl oM oM) <| Qa rfl (Qc (v := (i64 0)) rfl) ?_
 refine rN (Zq (Qg (sR ?_)))
 refine Qa rfl (Qb (v := (i64 0)) rfl) <| Qa rfl (X5 (a := 0) (b := 0) rfl rfl) <| rN <| Zc rfl (by decide) ?_
 refine Q7 (Qh (Qg (Qo (Qe ?_))))
 refine rM rfl (v := sv24) rfl <| rM rfl s1 <| Qa rfl (Ye (Rd.ofRest hra m25) Zi rfl) <| Qa rfl (Yv ⟨_, Fj⟩ X4 rfl) <| Qa rfl (Qb (v := (i64 0)) rfl) <| Qa (v := (i64 0)) rfl (Z7 (a := 8) (b := 0) rfl rfl oM oM) <| Qa rfl (Xy (b := 0) rfl rfl oM) <| Qa rfl (Xw ⟨_, X4⟩ Vm rfl) <| Za rfl (Ql u8 [((BitVec.ofInt 64 (la.length : Int)) >>> 0).setWidth 8] Qu m25 Zi X6 rfl rfl rfl) ?_
 rintro _ w26 ⟨b23_7, rfl, e26, m26⟩
 refine Za rfl (Zk (f := u8) (Hs := Hs24) (H := [_, _]) (Mem.pick [_] Hs24 _ m26) g24 rfl rfl (Rd.mkA m26.h0) Zi Zi X6 rfl Qu sD sD) ?_
 rintro sv27 w27 ⟨Hs27, m27, g27⟩
 replace g27 : Zv u8 5 sv27 ((((((((nonce ++ ([((BitVec.ofInt 64 (la.length : Int)) >>> 56).setWidth 8])) ++ ([((BitVec.ofInt 64 (la.length : Int)) >>> 48).setWidth 8])) ++ ([((BitVec.ofInt 64 (la.length : Int)) >>> 40).setWidth 8])) ++ ([((BitVec.ofInt 64 (la.length : Int)) >>> 32).setWidth 8])) ++ ([((BitVec.ofInt 64 (la.length : Int)) >>> 24).setWidth 8])) ++ ([((BitVec.ofInt 64 (la.length : Int)) >>> 16).setWidth 8])) ++ ([((BitVec.ofInt 64 (la.length : Int)) >>> 8).setWidth 8])) ++ ([((BitVec.ofInt 64 (la.length : Int)) >>> 0).setWidth 8])) Hs27 := g27
 refine rA rfl (v := sv27) rfl ?_
 refine Zr (Qi ?_)
 have m28 := Mem.drop [_] _ (Mem.pick Hs27 [_] _ m27)
 refine Qe <| Qa rfl (Qb (v := (i64 0)) rfl) <| Qa (v := (i64 (-1))) rfl (Zp (a := 0) (b := 1) rfl rfl oM oM) <| Qa rfl (Qc (v := (i64 (-1))) rfl) ?_
 refine rN (Zq (Qg (sR ?_)))
 refine Qa rfl (Qb (v := (i64 (-1))) rfl) <| Qa rfl (X5 (a := (-1)) (b := 0) rfl rfl) <| rN <| Yp rfl (by decide) <| X0 ?_
 refine Qr (Qr (Xf ?_))
 refine sR <| rM rfl (v := sv27) rfl <| rM rfl s1 <| Za rfl (Zk (f := u8) (Hs := Hs27) (H := [_]) m28 g27 rfl rfl (Rd.ofRest hra m28) Zi Zi X6 rfl Qu sD sD) ?_
 rintro sv29 w29 ⟨Hs29, m29, g29⟩
 replace g29 : Zv u8 5 sv29 (((((((((nonce ++ ([((BitVec.ofInt 64 (la.length : Int)) >>> 56).setWidth 8])) ++ ([((BitVec.ofInt 64 (la.length : Int)) >>> 48).setWidth 8])) ++ ([((BitVec.ofInt 64 (la.length : Int)) >>> 40).setWidth 8])) ++ ([((BitVec.ofInt 64 (la.length : Int)) >>> 32).setWidth 8])) ++ ([((BitVec.ofInt 64 (la.length : Int)) >>> 24).setWidth 8])) ++ ([((BitVec.ofInt 64 (la.length : Int)) >>> 16).setWidth 8])) ++ ([((BitVec.ofInt 64 (la.length : Int)) >>> 8).setWidth 8])) ++ ([((BitVec.ofInt 64 (la.length : Int)) >>> 0).setWidth 8])) ++ la) Hs29 := g29
 refine rM rfl s2 <| Za rfl (Zk (f := u8) (Hs := Hs29) (H := [_]) m29 g29 rfl rfl (Rd.ofRest hrc m29) Zi Zi X6 rfl Qu sD sD) ?_
 rintro sv30 w30 ⟨Hs30, m30, g30⟩
 replace g30 : Zv u8 5 sv30 ((((((((((nonce ++ ([((BitVec.ofInt 64 (la.length : Int)) >>> 56).setWidth 8])) ++ ([((BitVec.ofInt 64 (la.length : Int)) >>> 48).setWidth 8])) ++ ([((BitVec.ofInt 64 (la.length : Int)) >>> 40).setWidth 8])) ++ ([((BitVec.ofInt 64 (la.length : Int)) >>> 32).setWidth 8])) ++ ([((BitVec.ofInt 64 (la.length : Int)) >>> 24).setWidth 8])) ++ ([((BitVec.ofInt 64 (la.length : Int)) >>> 16).setWidth 8])) ++ ([((BitVec.ofInt 64 (la.length : Int)) >>> 8).setWidth 8])) ++ ([((BitVec.ofInt 64 (la.length : Int)) >>> 0).setWidth 8])) ++ la) ++ lc) Hs30 := g30
 refine rA rfl (v := sv30) rfl ?_
 refine rN (Xt ?_)
 refine Ze [sv30] ⟨rfl, trivial⟩ ?_
 have m31 := Mem.drop [_] _ (Mem.pick Hs30 [_] _ m30)
 have hfin : (((((((((nonce ++ ([((BitVec.ofInt 64 (la.length : Int)) >>> 56).setWidth 8])) ++ ([((BitVec.ofInt 64 (la.length : Int)) >>> 48).setWidth 8])) ++ ([((BitVec.ofInt 64 (la.length : Int)) >>> 40).setWidth 8])) ++ ([((BitVec.ofInt 64 (la.length : Int)) >>> 32).setWidth 8])) ++ ([((BitVec.ofInt 64 (la.length : Int)) >>> 24).setWidth 8])) ++ ([((BitVec.ofInt 64 (la.length : Int)) >>> 16).setWidth 8])) ++ ([((BitVec.ofInt 64 (la.length : Int)) >>> 8).setWidth 8])) ++ ([((BitVec.ofInt 64 (la.length : Int)) >>> 0).setWidth 8])) ++ la) ++ lc = Dj nonce la lc := by simp [Dj, len8]
 exact ⟨Hs30, hfin ▸ g30, by simpa using m31⟩
set_option maxHeartbeats 1000000 in
theorem Qgn (nonce : List (BitVec 8)) (va : Value) (la : List (BitVec 8)) (vc : Value) (lc : List (BitVec 8)) (w0 : World)  (hn : nonce.length = 12) (hra : Rd (Yq w0) u8 va la) (hla : la.length ≤ 1000000) (hrc : Rd (Yq w0) u8 vc lc) (hlc : lc.length ≤ 1000000) : Xz Tryd.prog 72 #[(agg u8 nonce), va, vc] w0 (fun r w1 => ∃ Hs, Zv u8 5 r (Dj nonce la lc) Hs ∧ Mem w1 (Qy w0) Hs) := by
 refine Zd (args := [(agg u8 nonce), va, vc]) Tryd.func72 rfl Tryd.ntmps72 Tryd.results72 rfl ?_
 have m0 : Mem w0 (Qy w0) [] := Mem.of_world w0
 refine sR <| Za rfl (Z8 (f := u8) (l := nonce) m0 rfl) ?_
 rintro _ w1 ⟨b3, rfl, e1, m1⟩
 refine Qa rfl (Qc (v := (Value.slice none 0 0)) rfl) ?_
 refine rN (sR ?_)
 refine Za rfl (Ql u8 [] Qu m1 Zi X6 rfl (by simp [Jo]) rfl) ?_
 rintro _ w2 ⟨b9, rfl, e2, m2⟩
 refine Qa rfl (Xj (i := 0) (j := 12) Qah X6 rfl (Zy _ _) (Zy _ _) oM sD sD) <| Za rfl (Zk (f := u8) (Hs := [(b9, .cells (cl u8 ([])) 5 (0, 0))]) (H := [_]) m2 (Zv.of u8 5 b9 ([])) rfl rfl (Rd.slaAll m2.h1 sD) Zi Zi X6 rfl Qu sD sD) ?_
 rintro sv3 w3 ⟨Hs3, m3, g3⟩
 replace g3 : Zv u8 5 sv3 nonce Hs3 := g3
 refine rA rfl (v := sv3) rfl ?_
 refine rN (Qg (sR ?_))
 refine Qa rfl (Qc (v := (i64 7)) rfl) ?_
 refine rN (Qo ?_)
 refine Kw 9 ?_
 refine Zq (Qg (sR ?_))
 refine Qa rfl (Qb (v := (i64 7)) rfl) <| Qa rfl (X5 (a := 7) (b := 0) rfl rfl) <| rN <| Zc rfl (by decide) ?_
 refine Q7 (Qh (Qg (Qo (Qe ?_))))
 refine rM rfl (v := sv3) rfl <| rM rfl (v := va) rfl <| Qa rfl (Ye (Rd.ofRest hra m3) Zi rfl) <| Qa rfl (Yv ⟨_, Fj⟩ X4 rfl) <| Qa rfl (Qb (v := (i64 7)) rfl) <| Qa (v := (i64 56)) rfl (Z7 (a := 8) (b := 7) rfl rfl oM oM) <| Qa rfl (Xy (b := 56) rfl rfl oM) <| Qa rfl (Xw ⟨_, X4⟩ Vm rfl) <| Za rfl (Ql u8 [((BitVec.ofInt 64 (la.length : Int)) >>> 56).setWidth 8] Qu m3 Zi X6 rfl rfl rfl) ?_
 rintro _ w4 ⟨b24, rfl, e4, m4⟩
 refine Za rfl (Zk (f := u8) (Hs := Hs3) (H := [_, _]) (Mem.pick [_] Hs3 _ m4) g3 rfl rfl (Rd.mkA m4.h0) Zi Zi X6 rfl Qu sD sD) ?_
 rintro sv5 w5 ⟨Hs5, m5, g5⟩
 replace g5 : Zv u8 5 sv5 (nonce ++ ([((BitVec.ofInt 64 (la.length : Int)) >>> 56).setWidth 8])) Hs5 := g5
 refine rA rfl (v := sv5) rfl ?_
 refine Zr (Qi ?_)
 have m6 := Mem.drop [_] _ (Mem.pick Hs5 [_] _ m5)
 refine Qe <| Qa rfl (Qb (v := (i64 7)) rfl) <| Qa (v := (i64 6)) rfl (Zp (a := 7) (b := 1) rfl rfl oM oM) <| Qa rfl (Qc (v := (i64 6)) rfl) ?_
 refine rN (Zq (Qg (sR ?_)))
 refine Qa rfl (Qb (v := (i64 6)) rfl) <| Qa rfl (X5 (a := 6) (b := 0) rfl rfl) <| rN <| Zc rfl (by decide) ?_
 refine Q7 (Qh (Qg (Qo (Qe ?_))))
 refine rM rfl (v := sv5) rfl <| rM rfl (v := va) rfl <| Qa rfl (Ye (Rd.ofRest hra m6) Zi rfl) <| Qa rfl (Yv ⟨_, Fj⟩ X4 rfl) <| Qa rfl (Qb (v := (i64 6)) rfl) <| Qa (v := (i64 48)) rfl (Z7 (a := 8) (b := 6) rfl rfl oM oM) <| Qa rfl (Xy (b := 48) rfl rfl oM) <| Qa rfl (Xw ⟨_, X4⟩ Vm rfl) <| Za rfl (Ql u8 [((BitVec.ofInt 64 (la.length : Int)) >>> 48).setWidth 8] Qu m6 Zi X6 rfl rfl rfl) ?_
 rintro _ w7 ⟨b24_1, rfl, e7, m7⟩
 refine Za rfl (Zk (f := u8) (Hs := Hs5) (H := [_, _]) (Mem.pick [_] Hs5 _ m7) g5 rfl rfl (Rd.mkA m7.h0) Zi Zi X6 rfl Qu sD sD) ?_
 rintro sv8 w8 ⟨Hs8, m8, g8⟩
 replace g8 : Zv u8 5 sv8 ((nonce ++ ([((BitVec.ofInt 64 (la.length : Int)) >>> 56).setWidth 8])) ++ ([((BitVec.ofInt 64 (la.length : Int)) >>> 48).setWidth 8])) Hs8 := g8
 refine rA rfl (v := sv8) rfl ?_
 refine Zr (Qi ?_)
 have m9 := Mem.drop [_] _ (Mem.pick Hs8 [_] _ m8)
 refine Qe <| Qa rfl (Qb (v := (i64 6)) rfl) <| Qa (v := (i64 5)) rfl (Zp (a := 6) (b := 1) rfl rfl oM oM) <| Qa rfl (Qc (v := (i64 5)) rfl) ?_
 refine rN (Zq (Qg (sR ?_)))
 refine Qa rfl (Qb (v := (i64 5)) rfl) <| Qa rfl (X5 (a := 5) (b := 0) rfl rfl) <| rN <| Zc rfl (by decide) ?_
 refine Q7 (Qh (Qg (Qo (Qe ?_))))
 refine rM rfl (v := sv8) rfl <| rM rfl (v := va) rfl <| Qa rfl (Ye (Rd.ofRest hra m9) Zi rfl) <| Qa rfl (Yv ⟨_, Fj⟩ X4 rfl) <| Qa rfl (Qb (v := (i64 5)) rfl) <| Qa (v := (i64 40)) rfl (Z7 (a := 8) (b := 5) rfl rfl oM oM) <| Qa rfl (Xy (b := 40) rfl rfl oM) <| Qa rfl (Xw ⟨_, X4⟩ Vm rfl) <| Za rfl (Ql u8 [((BitVec.ofInt 64 (la.length : Int)) >>> 40).setWidth 8] Qu m9 Zi X6 rfl rfl rfl) ?_
 rintro _ w10 ⟨b24_2, rfl, e10, m10⟩
 refine Za rfl (Zk (f := u8) (Hs := Hs8) (H := [_, _]) (Mem.pick [_] Hs8 _ m10) g8 rfl rfl (Rd.mkA m10.h0) Zi Zi X6 rfl Qu sD sD) ?_
 rintro sv11 w11 ⟨Hs11, m11, g11⟩
 replace g11 : Zv u8 5 sv11 (((nonce ++ ([((BitVec.ofInt 64 (la.length : Int)) >>> 56).setWidth 8])) ++ ([((BitVec.ofInt 64 (la.length : Int)) >>> 48).setWidth 8])) ++ ([((BitVec.ofInt 64 (la.length : Int)) >>> 40).setWidth 8])) Hs11 := g11
 refine rA rfl (v := sv11) rfl ?_
 refine Zr (Qi ?_)
 have m12 := Mem.drop [_] _ (Mem.pick Hs11 [_] _ m11)
 refine Qe <| Qa rfl (Qb (v := (i64 5)) rfl) <| Qa (v := (i64 4)) rfl (Zp (a := 5) (b := 1) rfl rfl oM oM) <| Qa rfl (Qc (v := (i64 4)) rfl) ?_
 refine rN (Zq (Qg (sR ?_)))
 refine Qa rfl (Qb (v := (i64 4)) rfl) <| Qa rfl (X5 (a := 4) (b := 0) rfl rfl) <| rN <| Zc rfl (by decide) ?_
 refine Q7 (Qh (Qg (Qo (Qe ?_))))
 refine rM rfl (v := sv11) rfl <| rM rfl (v := va) rfl <| Qa rfl (Ye (Rd.ofRest hra m12) Zi rfl) <| Qa rfl (Yv ⟨_, Fj⟩ X4 rfl) <| Qa rfl (Qb (v := (i64 4)) rfl) <| Qa (v := (i64 32)) rfl (Z7 (a := 8) (b := 4) rfl rfl oM oM) <| Qa rfl (Xy (b := 32) rfl rfl oM) <| Qa rfl (Xw ⟨_, X4⟩ Vm rfl) <| Za rfl (Ql u8 [((BitVec.ofInt 64 (la.length : Int)) >>> 32).setWidth 8] Qu m12 Zi X6 rfl rfl rfl) ?_
 rintro _ w13 ⟨b24_3, rfl, e13, m13⟩
 refine Za rfl (Zk (f := u8) (Hs := Hs11) (H := [_, _]) (Mem.pick [_] Hs11 _ m13) g11 rfl rfl (Rd.mkA m13.h0) Zi Zi X6 rfl Qu sD sD) ?_
 rintro sv14 w14 ⟨Hs14, m14, g14⟩
 replace g14 : Zv u8 5 sv14 ((((nonce ++ ([((BitVec.ofInt 64 (la.length : Int)) >>> 56).setWidth 8])) ++ ([((BitVec.ofInt 64 (la.length : Int)) >>> 48).setWidth 8])) ++ ([((BitVec.ofInt 64 (la.length : Int)) >>> 40).setWidth 8])) ++ ([((BitVec.ofInt 64 (la.length : Int)) >>> 32).setWidth 8])) Hs14 := g14
 refine rA rfl (v := sv14) rfl ?_
 refine Zr (Qi ?_)
 have m15 := Mem.drop [_] _ (Mem.pick Hs14 [_] _ m14)
 refine Qe <| Qa rfl (Qb (v := (i64 4)) rfl) <| Qa (v := (i64 3)) rfl (Zp (a := 4) (b := 1) rfl rfl oM oM) <| Qa rfl (Qc (v := (i64 3)) rfl) ?_
 refine rN (Zq (Qg (sR ?_)))
 refine Qa rfl (Qb (v := (i64 3)) rfl) <| Qa rfl (X5 (a := 3) (b := 0) rfl rfl) <| rN <| Zc rfl (by decide) ?_
 refine Q7 (Qh (Qg (Qo (Qe ?_))))
 refine rM rfl (v := sv14) rfl <| rM rfl (v := va) rfl <| Qa rfl (Ye (Rd.ofRest hra m15) Zi rfl) <| Qa rfl (Yv ⟨_, Fj⟩ X4 rfl) <| Qa rfl (Qb (v := (i64 3)) rfl) <| Qa (v := (i64 24)) rfl (Z7 (a := 8) (b := 3) rfl rfl oM oM) <| Qa rfl (Xy (b := 24) rfl rfl oM) <| Qa rfl (Xw ⟨_, X4⟩ Vm rfl) <| Za rfl (Ql u8 [((BitVec.ofInt 64 (la.length : Int)) >>> 24).setWidth 8] Qu m15 Zi X6 rfl rfl rfl) ?_
 rintro _ w16 ⟨b24_4, rfl, e16, m16⟩
 refine Za rfl (Zk (f := u8) (Hs := Hs14) (H := [_, _]) (Mem.pick [_] Hs14 _ m16) g14 rfl rfl (Rd.mkA m16.h0) Zi Zi X6 rfl Qu sD sD) ?_
 rintro sv17 w17 ⟨Hs17, m17, g17⟩
 replace g17 : Zv u8 5 sv17 (((((nonce ++ ([((BitVec.ofInt 64 (la.length : Int)) >>> 56).setWidth 8])) ++ ([((BitVec.ofInt 64 (la.length : Int)) >>> 48).setWidth 8])) ++ ([((BitVec.ofInt 64 (la.length : Int)) >>> 40).setWidth 8])) ++ ([((BitVec.ofInt 64 (la.length : Int)) >>> 32).setWidth 8])) ++ ([((BitVec.ofInt 64 (la.length : Int)) >>> 24).setWidth 8])) Hs17 := g17
 refine rA rfl (v := sv17) rfl ?_
 refine Zr (Qi ?_)
 have m18 := Mem.drop [_] _ (Mem.pick Hs17 [_] _ m17)
 refine CW.abs (fun g => g 0 = (agg u8 nonce) ∧ g 1 = va ∧ g 2 = vc ∧ g 3 = (ptr b3 0) ∧ g 6 = (Value.slice none 0 0) ∧ g 7 = sv17 ∧ g 8 = (i64 3) ∧ g 13 = (bl true) ∧ True) ⟨rfl, rfl, rfl, rfl, rfl, rfl, rfl, rfl, trivial⟩ ?_
 rintro fr19 ⟨s0, s1, s2, s3, s6, s7, s8, s13, _⟩
 refine Qe <| rM rfl s8 <| Qa (v := (i64 2)) rfl (Zp (a := 3) (b := 1) rfl rfl oM oM) <| Qa rfl (Qc (v := (i64 2)) rfl) ?_
 refine rN (Zq (Qg (sR ?_)))
 refine Qa rfl (Qb (v := (i64 2)) rfl) <| Qa rfl (X5 (a := 2) (b := 0) rfl rfl) <| rN <| Zc rfl (by decide) ?_
 refine Q7 (Qh (Qg (Qo (Qe ?_))))
 refine rM rfl s7 <| rM rfl s1 <| Qa rfl (Ye (Rd.ofRest hra m18) Zi rfl) <| Qa rfl (Yv ⟨_, Fj⟩ X4 rfl) <| Qa rfl (Qb (v := (i64 2)) rfl) <| Qa (v := (i64 16)) rfl (Z7 (a := 8) (b := 2) rfl rfl oM oM) <| Qa rfl (Xy (b := 16) rfl rfl oM) <| Qa rfl (Xw ⟨_, X4⟩ Vm rfl) <| Za rfl (Ql u8 [((BitVec.ofInt 64 (la.length : Int)) >>> 16).setWidth 8] Qu m18 Zi X6 rfl rfl rfl) ?_
 rintro _ w20 ⟨b24_5, rfl, e20, m20⟩
 refine Za rfl (Zk (f := u8) (Hs := Hs17) (H := [_, _]) (Mem.pick [_] Hs17 _ m20) g17 rfl rfl (Rd.mkA m20.h0) Zi Zi X6 rfl Qu sD sD) ?_
 rintro sv21 w21 ⟨Hs21, m21, g21⟩
 replace g21 : Zv u8 5 sv21 ((((((nonce ++ ([((BitVec.ofInt 64 (la.length : Int)) >>> 56).setWidth 8])) ++ ([((BitVec.ofInt 64 (la.length : Int)) >>> 48).setWidth 8])) ++ ([((BitVec.ofInt 64 (la.length : Int)) >>> 40).setWidth 8])) ++ ([((BitVec.ofInt 64 (la.length : Int)) >>> 32).setWidth 8])) ++ ([((BitVec.ofInt 64 (la.length : Int)) >>> 24).setWidth 8])) ++ ([((BitVec.ofInt 64 (la.length : Int)) >>> 16).setWidth 8])) Hs21 := g21
 refine rA rfl (v := sv21) rfl ?_
 refine Zr (Qi ?_)
 have m22 := Mem.drop [_] _ (Mem.pick Hs21 [_] _ m21)
 refine Qe <| Qa rfl (Qb (v := (i64 2)) rfl) <| Qa (v := (i64 1)) rfl (Zp (a := 2) (b := 1) rfl rfl oM oM) <| Qa rfl (Qc (v := (i64 1)) rfl) ?_
 refine rN (Zq (Qg (sR ?_)))
 refine Qa rfl (Qb (v := (i64 1)) rfl) <| Qa rfl (X5 (a := 1) (b := 0) rfl rfl) <| rN <| Zc rfl (by decide) ?_
 refine Q7 (Qh (Qg (Qo (Qe ?_))))
 refine rM rfl (v := sv21) rfl <| rM rfl s1 <| Qa rfl (Ye (Rd.ofRest hra m22) Zi rfl) <| Qa rfl (Yv ⟨_, Fj⟩ X4 rfl) <| Qa rfl (Qb (v := (i64 1)) rfl) <| Qa (v := (i64 8)) rfl (Z7 (a := 8) (b := 1) rfl rfl oM oM) <| Qa rfl (Xy (b := 8) rfl rfl oM) <| Qa rfl (Xw ⟨_, X4⟩ Vm rfl) <| Za rfl (Ql u8 [((BitVec.ofInt 64 (la.length : Int)) >>> 8).setWidth 8] Qu m22 Zi X6 rfl rfl rfl) ?_
 rintro _ w23 ⟨b24_6, rfl, e23, m23⟩
 refine Za rfl (Zk (f := u8) (Hs := Hs21) (H := [_, _]) (Mem.pick [_] Hs21 _ m23) g21 rfl rfl (Rd.mkA m23.h0) Zi Zi X6 rfl Qu sD sD) ?_
 rintro sv24 w24 ⟨Hs24, m24, g24⟩
 replace g24 : Zv u8 5 sv24 (((((((nonce ++ ([((BitVec.ofInt 64 (la.length : Int)) >>> 56).setWidth 8])) ++ ([((BitVec.ofInt 64 (la.length : Int)) >>> 48).setWidth 8])) ++ ([((BitVec.ofInt 64 (la.length : Int)) >>> 40).setWidth 8])) ++ ([((BitVec.ofInt 64 (la.length : Int)) >>> 32).setWidth 8])) ++ ([((BitVec.ofInt 64 (la.length : Int)) >>> 24).setWidth 8])) ++ ([((BitVec.ofInt 64 (la.length : Int)) >>> 16).setWidth 8])) ++ ([((BitVec.ofInt 64 (la.length : Int)) >>> 8).setWidth 8])) Hs24 := g24
 refine rA rfl (v := sv24) rfl ?_
 refine Zr (Qi ?_)
 have m25 := Mem.drop [_] _ (Mem.pick Hs24 [_] _ m24)
 refine Qe <| Qa rfl (Qb (v := (i64 1)) rfl) <| Qa (v := (i64 0)) rfl (Zp (a := 1) (b := 1) rfl rfl oM oM) <| Qa rfl (Qc (v := (i64 0)) rfl) ?_
 refine rN (Zq (Qg (sR ?_)))
 refine Qa rfl (Qb (v := (i64 0)) rfl) <| Qa rfl (X5 (a := 0) (b := 0) rfl rfl) <| rN <| Zc rfl (by decide) ?_
 refine Q7 (Qh (Qg (Qo (Qe ?_))))
 refine rM rfl (v := sv24) rfl <| rM rfl s1 <| Qa rfl (Ye (Rd.ofRest hra m25) Zi rfl) <| Qa rfl (Yv ⟨_, Fj⟩ X4 rfl) <| Qa rfl (Qb (v := (i64 0)) rfl) <| Qa (v := (i64 0)) rfl (Z7 (a := 8) (b := 0) rfl rfl oM oM) <| Qa rfl (Xy (b := 0) rfl rfl oM) <| Qa rfl (Xw ⟨_, X4⟩ Vm rfl) <| Za rfl (Ql u8 [((BitVec.ofInt 64 (la.length : Int)) >>> 0).setWidth 8] Qu m25 Zi X6 rfl rfl rfl) ?_
 rintro _ w26 ⟨b24_7, rfl, e26, m26⟩
 refine Za rfl (Zk (f := u8) (Hs := Hs24) (H := [_, _]) (Mem.pick [_] Hs24 _ m26) g24 rfl rfl (Rd.mkA m26.h0) Zi Zi X6 rfl Qu sD sD) ?_
 rintro sv27 w27 ⟨Hs27, m27, g27⟩
 replace g27 : Zv u8 5 sv27 ((((((((nonce ++ ([((BitVec.ofInt 64 (la.length : Int)) >>> 56).setWidth 8])) ++ ([((BitVec.ofInt 64 (la.length : Int)) >>> 48).setWidth 8])) ++ ([((BitVec.ofInt 64 (la.length : Int)) >>> 40).setWidth 8])) ++ ([((BitVec.ofInt 64 (la.length : Int)) >>> 32).setWidth 8])) ++ ([((BitVec.ofInt 64 (la.length : Int)) >>> 24).setWidth 8])) ++ ([((BitVec.ofInt 64 (la.length : Int)) >>> 16).setWidth 8])) ++ ([((BitVec.ofInt 64 (la.length : Int)) >>> 8).setWidth 8])) ++ ([((BitVec.ofInt 64 (la.length : Int)) >>> 0).setWidth 8])) Hs27 := g27
 refine rA rfl (v := sv27) rfl ?_
 refine Zr (Qi ?_)
 have m28 := Mem.drop [_] _ (Mem.pick Hs27 [_] _ m27)
 refine Qe <| Qa rfl (Qb (v := (i64 0)) rfl) <| Qa (v := (i64 (-1))) rfl (Zp (a := 0) (b := 1) rfl rfl oM oM) <| Qa rfl (Qc (v := (i64 (-1))) rfl) ?_
 refine rN (Zq (Qg (sR ?_)))
 refine Qa rfl (Qb (v := (i64 (-1))) rfl) <| Qa rfl (X5 (a := (-1)) (b := 0) rfl rfl) <| rN <| Yp rfl (by decide) <| X0 ?_
 refine Qr (Qr (Xf ?_))
 refine sR <| rM rfl (v := sv27) rfl <| rM rfl s1 <| Za rfl (Zk (f := u8) (Hs := Hs27) (H := [_]) m28 g27 rfl rfl (Rd.ofRest hra m28) Zi Zi X6 rfl Qu sD sD) ?_
 rintro sv29 w29 ⟨Hs29, m29, g29⟩
 replace g29 : Zv u8 5 sv29 (((((((((nonce ++ ([((BitVec.ofInt 64 (la.length : Int)) >>> 56).setWidth 8])) ++ ([((BitVec.ofInt 64 (la.length : Int)) >>> 48).setWidth 8])) ++ ([((BitVec.ofInt 64 (la.length : Int)) >>> 40).setWidth 8])) ++ ([((BitVec.ofInt 64 (la.length : Int)) >>> 32).setWidth 8])) ++ ([((BitVec.ofInt 64 (la.length : Int)) >>> 24).setWidth 8])) ++ ([((BitVec.ofInt 64 (la.length : Int)) >>> 16).setWidth 8])) ++ ([((BitVec.ofInt 64 (la.length : Int)) >>> 8).setWidth 8])) ++ ([((BitVec.ofInt 64 (la.length : Int)) >>> 0).setWidth 8])) ++ la) Hs29 := g29
 refine rA rfl (v := sv29) rfl ?_
 refine rN (sR ?_)
 refine rM rfl (v := sv29) rfl <| rM rfl s2 <| Za rfl (Zk (f := u8) (Hs := Hs29) (H := [_]) m29 g29 rfl rfl (Rd.ofRest hrc m29) Zi Zi X6 rfl Qu sD sD) ?_
 rintro sv30 w30 ⟨Hs30, m30, g30⟩
 replace g30 : Zv u8 5 sv30 ((((((((((nonce ++ ([((BitVec.ofInt 64 (la.length : Int)) >>> 56).setWidth 8])) ++ ([((BitVec.ofInt 64 (la.length : Int)) >>> 48).setWidth 8])) ++ ([((BitVec.ofInt 64 (la.length : Int)) >>> 40).setWidth 8])) ++ ([((BitVec.ofInt 64 (la.length : Int)) >>> 32).setWidth 8])) ++ ([((BitVec.ofInt 64 (la.length : Int)) >>> 24).setWidth 8])) ++ ([((BitVec.ofInt 64 (la.length : Int)) >>> 16).setWidth 8])) ++ ([((BitVec.ofInt 64 (la.length : Int)) >>> 8).setWidth 8])) ++ ([((BitVec.ofInt 64 (la.length : Int)) >>> 0).setWidth 8])) ++ la) ++ lc) Hs30 := g30
 refine rA rfl (v := sv30) rfl ?_
 refine rN (Xt ?_)
 refine Ze [sv30] ⟨rfl, trivial⟩ ?_
 have m31 := Mem.drop [_] _ (Mem.pick Hs30 [_] _ m30)
 have hfin : (((((((((nonce ++ ([((BitVec.ofInt 64 (la.length : Int)) >>> 56).setWidth 8])) ++ ([((BitVec.ofInt 64 (la.length : Int)) >>> 48).setWidth 8])) ++ ([((BitVec.ofInt 64 (la.length : Int)) >>> 40).setWidth 8])) ++ ([((BitVec.ofInt 64 (la.length : Int)) >>> 32).setWidth 8])) ++ ([((BitVec.ofInt 64 (la.length : Int)) >>> 24).setWidth 8])) ++ ([((BitVec.ofInt 64 (la.length : Int)) >>> 16).setWidth 8])) ++ ([((BitVec.ofInt 64 (la.length : Int)) >>> 8).setWidth 8])) ++ ([((BitVec.ofInt 64 (la.length : Int)) >>> 0).setWidth 8])) ++ la) ++ lc = Dj nonce la lc := by simp [Dj, len8]
 exact ⟨Hs30, hfin ▸ g30, by simpa using m31⟩
end Go.Proofs.YtkmiemlpfkfiiaaDoor
