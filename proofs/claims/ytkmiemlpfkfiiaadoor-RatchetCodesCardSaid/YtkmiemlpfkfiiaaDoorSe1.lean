/- Contracts: the seal, first part. Conditions: none beyond those that each theorem states. -/
import Derived.Test.YtkmiemlpfkfiiaaDoorKd3
import Derived.Test.YtkmiemlpfkfiiaaDoorFwO
namespace Go.Proofs.YtkmiemlpfkfiiaaDoor
set_option linter.unusedVariables false
set_option linter.unusedSimpArgs false
theorem manyK_ok {n : Int} (h0 : 0 ≤ n) (h1 : n ≤ 255) : Di n = n.toNat := by unfold Di badK; rw [if_neg (by simp; omega)]
theorem Qad {a b p : List (BitVec 8)} {n : Int} (h0 : 0 ≤ n) (h1 : n ≤ 255) : Va a b p n = U3 n.toNat (V7 (Vp a b) p (32 * n.toNat)) := by unfold Va; rw [manyK_ok h0 h1]
theorem Qhk {a b p : List (BitVec 8)} {n : Int} (h0 : 0 ≤ n) (h1 : n ≤ 255) : ((Va a b p n).length : Int) = n := by rw [Qad h0 h1, Nh]; omega
theorem Ph {m k : Nat} {L : List (BitVec 8)} (h : k < m) (hL : L.length = 32 * m) : ((U3 m L).getD k []).length = 32 := by
  unfold U3
  simp [List.getD_eq_getElem?_getD, h]; omega
def Y5 (key : List (BitVec 8)) : List (BitVec 8) := (Va [] key (J3 ⟨#[115, 101, 97, 108]⟩) 2).getD 0 []
def Vo (key : List (BitVec 8)) : List (BitVec 8) := (Va [] key (J3 ⟨#[115, 101, 97, 108]⟩) 2).getD 1 []
theorem Qff (key : List (BitVec 8)) : (Y5 key).length = 32 := by
  unfold Y5; rw [Qad (by decide) (by decide)]; exact Ph (by decide) (by rw [Ud])
theorem Qfg (key : List (BitVec 8)) : (Vo key).length = 32 := by
  unfold Vo; rw [Qad (by decide) (by decide)]; exact Ph (by decide) (by rw [Ud])
def len8 (n : Int) : List (BitVec 8) := [(BitVec.ofInt 64 n >>> 56).setWidth 8, (BitVec.ofInt 64 n >>> 48).setWidth 8, (BitVec.ofInt 64 n >>> 40).setWidth 8, (BitVec.ofInt 64 n >>> 32).setWidth 8,
  (BitVec.ofInt 64 n >>> 24).setWidth 8, (BitVec.ofInt 64 n >>> 16).setWidth 8, (BitVec.ofInt 64 n >>> 8).setWidth 8, (BitVec.ofInt 64 n >>> 0).setWidth 8]
@[simp] theorem Qfe (n : Int) : (len8 n).length = 8 := rfl
def U0 (nonce beside cipher : List (BitVec 8)) : List (BitVec 8) := nonce ++ len8 (beside.length : Int) ++ beside ++ cipher
@[simp] theorem L8 (nonce beside cipher : List (BitVec 8)) : (U0 nonce beside cipher).length = nonce.length + 8 + beside.length + cipher.length := by simp only [U0, List.length_append, Qfe]
def tagP (key nonce beside cipher : List (BitVec 8)) : List (BitVec 8) := Ya (Vo key) (U0 nonce beside cipher)
@[simp] theorem tagP_length (key nonce beside cipher : List (BitVec 8)) : (tagP key nonce beside cipher).length = 32 := V3 _ _
def Pg (key nonce plain : List (BitVec 8)) : List (BitVec 8) := Yw Xp (Y5 key) 1#32 nonce plain
@[simp] theorem Qc4 (key nonce plain : List (BitVec 8)) : (Pg key nonce plain).length = plain.length := Fg _ _ _ _ _
def Eg (key nonce beside plain : List (BitVec 8)) : List (BitVec 8) := Pg key nonce plain ++ tagP key nonce beside (Pg key nonce plain)
@[simp] theorem P5 (key nonce beside plain : List (BitVec 8)) : (Eg key nonce beside plain).length = plain.length + 32 := by simp [Eg]
attribute [local irreducible] Ya tK Qa0 V7 Vp Va En Qah H9 Yw Xp
theorem c_skeys (key : List (BitVec 8)) (w0 : World)  (hT : Tabs (Y3 w0)) (hk : key.length = 32) : X8 Tryd.prog 60 #[(agg u8 key)] w0 (fun r w1 => r = (Value.tuple #[(agg u8 (Y5 key)), (agg u8 (Vo key))]) ∧ Ext w0 w1) := by
 refine Zp (args := [(agg u8 key)]) Tryd.func60 rfl Tryd.ntmps60 Tryd.results60 rfl ?_
 have hm0 : Mem w0 (Qo w0) [] := Mem.of_world w0
 have hkl := Qhk (a := []) (b := key) (p := J3 ⟨#[115, 101, 97, 108]⟩) (n := 2) (by decide) (by decide)
 have hk0 : ((Va [] key (J3 ⟨#[115, 101, 97, 108]⟩) 2).getD 0 []).length = 32 := Qff key
 have hk1 : ((Va [] key (J3 ⟨#[115, 101, 97, 108]⟩) 2).getD 1 []).length = 32 := Qfg key
 refine sR <| Zo rfl (X4 (f := u8) (l := key) hm0 rfl) ?_
 rintro _ w1 ⟨b1, rfl, _ew1, hm1⟩
 refine Zo rfl (Zy hm1 Z5) ?_
 rintro _ w2 ⟨b2, rfl, _ew2, hm2⟩
 refine Zo rfl (Zy hm2 Z5) ?_
 rintro _ w3 ⟨b3, rfl, _ew3, hm3⟩
 refine rN (sR ?_)
 refine Qb rfl (Xg (i := 0) (j := 32) Xo Yq rfl (Zn _ _) (Zn _ _) oM sD sD) <| Zo rfl (Qx Tryd.func73 bd73 nm73 (args4 rfl rfl rfl rfl) (c_keys (Value.slice none 0 0) ([]) (sla b1 0 1 0 32 32) key (⟨#[115, 101, 97, 108]⟩) (2 : Int) _ (hT.mono fun b o e => (hm3).rest b o e) (Rd.nil _ _) sD (Rd.slaAll hm3.h2 sD) sD sD sD)) ?_
 rintro _ w4 ⟨vxq5, Hsq5, rfl, gvxq5, k_w4⟩
 have hm4 : Mem w4 (Qo w0) (Hsq5 ++ ([(b3, .cells (cl u8 (List.replicate 32 0)) 23 (0, 0)), (b2, .cells (cl u8 (List.replicate 32 0)) 23 (0, 0)), (b1, .cells (cl u8 key) 23 (0, 0))])) := Mem.new (H := [(b3, .cells (cl u8 (List.replicate 32 0)) 23 (0, 0)), (b2, .cells (cl u8 (List.replicate 32 0)) 23 (0, 0)), (b1, .cells (cl u8 key) 23 (0, 0))]) (H' := Hsq5) hm3 k_w4
 refine Qb rfl (Qc (v := (Value.tuple #[vxq5, (i64 (Qah (2 : Int)))])) rfl) <| Qb (v := vxq5) rfl (Xu rfl rfl) <| Qb (v := (i64 (Qah (2 : Int)))) rfl (Xu rfl rfl) <| rA rfl (v := vxq5) rfl <| Qb rfl (Qd (v := (i64 (Qah (2 : Int)))) rfl) ?_
 refine rN (Qh ?_)
 refine Kz (by kernel_rfl) ?_
 have hm6 := (Mem.pick2 Hsq5 [_, _] [_] _ hm4)
 have hm7 := (Mem.pick2 [_] Hsq5 [_] _ hm6)
 have hm8 := (Mem.pick [_, _] Hsq5 _ hm7)
 have hm9 := (Mem.pick2 Hsq5 [_, _] [_] _ hm8)
 have hFM10 : Mem w4 (Qo w0) ([(b2, .cells (cl u8 (List.replicate 32 0)) 23 (0, 0))] ++ (Hsq5 ++ ([(b3, .cells (cl u8 (List.replicate 32 0)) 23 (0, 0)), (b1, .cells (cl u8 key) 23 (0, 0))]))) := hm9
 obtain ⟨RM10, hRM10⟩ : ∃ R2, R2 = Rest.add (Qo w0) (Hsq5 ++ ([(b3, .cells (cl u8 (List.replicate 32 0)) 23 (0, 0)), (b1, .cells (cl u8 key) 23 (0, 0))])) := ⟨_, rfl⟩
 have M100 : Mem w4 RM10 [(b2, .cells (cl u8 (List.replicate 32 0)) 23 (0, 0))] := by rw [hRM10]; exact Mem.give hFM10
 have hg11 : RdK RM10.blk (Qc0 u8) 32 vxq5 (Va ([]) key (J3 (⟨#[115, 101, 97, 108]⟩)) (2 : Int)) := gvxq5.rdIn (fun p hp => by rw [hRM10]; exact Mem.addOwn hFM10 (List.mem_append_left _ hp))
 have ho12 : RM10.blk b3 = some (.cells (cl u8 (List.replicate 32 0)) 23 (0, 0)) := by rw [hRM10]; exact Mem.addOwn hFM10 (List.mem_append_right _ (List.Mem.head _))
 have ho13 : RM10.blk b1 = some (.cells (cl u8 key) 23 (0, 0)) := by rw [hRM10]; exact Mem.addOwn hFM10 (List.mem_append_right _ (List.Mem.tail _ (List.Mem.head _)))
 have hT14 : Tabs RM10.blk := by rw [hRM10]; exact Tabs.mono hT fun b o e => Mem.addRest hFM10 e
 refine Uc M100 [(0, false), (1, false), (2, false), (3, false), (4, false), (5, false), (6, true)] 7 rfl (by kernel_rfl) <| Jd rfl rfl (fun w _H _hx => Qc (v := vxq5) rfl) <| Jd rfl rfl (fun w _H _hx => Yy (i := 0) (RdK.ofRest hg11 _hx) Sm Z5 rfl rfl oM sD) <| Jd (v := (agg u8 ((Va ([]) key (J3 (⟨#[115, 101, 97, 108]⟩)) (2 : Int)).getD 0 []))) rfl rfl (fun w _H _hx => Ci (i := (0 : Int)) (RdK.ofRest hg11 _hx) sD Xo Z5 rfl rfl) <| Jd rfl rfl (fun w _H _hx => Qc (v := vxq5) rfl) <| Jd rfl rfl (fun w _H _hx => Yy (i := 1) (RdK.ofRest hg11 _hx) Sm Z5 rfl rfl oM sD) <| Jd (v := (agg u8 ((Va ([]) key (J3 (⟨#[115, 101, 97, 108]⟩)) (2 : Int)).getD 1 []))) rfl rfl (fun w _H _hx => Ci (i := (1 : Int)) (RdK.ofRest hg11 _hx) sD Xo Z5 rfl rfl) ?_
 refine dk_n rfl (fun w15 _ew15 => ?_)
 have hm15 := M100.ext _ew15
 refine Jr.mono (Zl (f := u8) (l := (Va ([]) key (J3 (⟨#[115, 101, 97, 108]⟩)) (2 : Int)).getD 0 []) Q8 Z5 rfl rfl sD hm15.h0 sZ rfl) ?_
 rintro _ w16 uq16
 have hm16 := hm15.upd0 uq16
 refine ⟨⟨_, hm16⟩, ?_⟩
 refine X3 (fun w17 _ew17 => ?_)
 have hm17 := hm16.ext _ew17
 have hX18 := hm17
 rw [hRM10] at hX18
 have hm19 : Mem w17 (Qo w0) ([(b2, .cells (cl u8 ((Va ([]) key (J3 (⟨#[115, 101, 97, 108]⟩)) (2 : Int)).getD 0 [])) 23 (0, 0))] ++ (Hsq5 ++ ([(b3, .cells (cl u8 (List.replicate 32 0)) 23 (0, 0)), (b1, .cells (cl u8 key) 23 (0, 0))]))) := (by
   have hT := Mem.back hFM10 hX18
   try simp only [List.append_assoc, List.cons_append, List.nil_append, List.append_nil] at hT ⊢
   exact hT)
 refine Xf (Zl (f := u8) (l := (Va ([]) key (J3 (⟨#[115, 101, 97, 108]⟩)) (2 : Int)).getD 1 []) Q8 Z5 rfl rfl sD ((Mem.pick2 [_] Hsq5 [_] _ hm19)).h0 sZ rfl) ?_
 rintro _ w20 uq20
 have hm20 : Mem w20 (Qo w0) ([(b3, .cells (cl u8 ((Va ([]) key (J3 (⟨#[115, 101, 97, 108]⟩)) (2 : Int)).getD 1 [])) 23 (0, 0)), (b2, .cells (cl u8 ((Va ([]) key (J3 (⟨#[115, 101, 97, 108]⟩)) (2 : Int)).getD 0 [])) 23 (0, 0))] ++ (Hsq5 ++ ([(b1, .cells (cl u8 key) 23 (0, 0))]))) := Mem.upd0 (Mem.pick2 [_] Hsq5 [_] _ hm19) uq20
 refine rN ?_
 refine CW.abs (fun g => g 0 = (agg u8 key) ∧ g 1 = (ptr b1 0) ∧ g 2 = (ptr b2 0) ∧ g 3 = (ptr b3 0) ∧ g 4 = vxq5 ∧ True) ⟨rfl, rfl, rfl, rfl, rfl, trivial⟩ ?_
 rintro fr21 ⟨s0, s1, s2, s3, s4, _⟩
 refine Xn <| Zj [(agg u8 ((Va ([]) key (J3 (⟨#[115, 101, 97, 108]⟩)) (2 : Int)).getD 0 [])), (agg u8 ((Va ([]) key (J3 (⟨#[115, 101, 97, 108]⟩)) (2 : Int)).getD 1 []))] ⟨⟨_, s2, X6 Xo rfl Z5 hm20.h1 sZ⟩, ⟨_, s3, X6 Xo rfl Z5 hm20.h0 sZ⟩, trivial⟩ ?_
 exact ⟨rfl, hm20.toExt⟩
set_option maxHeartbeats 1000000 in
theorem Qbh (nonce : List (BitVec 8)) (va : Value) (la : List (BitVec 8)) (vc : Value) (lc : List (BitVec 8)) (w0 : World)  (hn : nonce.length = 12) (hra : Rd (Y3 w0) u8 va la) (hla : la.length ≤ 1000000) (hrc : Rd (Y3 w0) u8 vc lc) (hlc : lc.length ≤ 1000000) : X8 Tryd.prog 62 #[(agg u8 nonce), va, vc] w0 (fun r w1 => ∃ Hs, Xx u8 5 r (U0 nonce la lc) Hs ∧ Mem w1 (Qo w0) Hs) := by
 refine Zp (args := [(agg u8 nonce), va, vc]) Tryd.func62 rfl Tryd.ntmps62 Tryd.results62 rfl ?_
 have hm0 : Mem w0 (Qo w0) [] := Mem.of_world w0
 refine sR <| Zo rfl (X4 (f := u8) (l := nonce) hm0 rfl) ?_
 rintro _ w1 ⟨b3, rfl, _ew1, hm1⟩
 refine Qb rfl (Qd (v := (Value.slice none 0 0)) rfl) ?_
 refine rN (sR ?_)
 refine Qb rfl (Xg (i := 0) (j := 12) Qce Yq rfl (Zn _ _) (Zn _ _) oM sD sD) <| Zo rfl (Qx Tryd.func34 bd34 nm34 (Ye rfl) (Qam (sla b3 0 1 0 12 12) nonce _ (Rd.slaAll hm1.h0 sD) sD)) ?_
 rintro rq3 w2 ⟨Hsq3, grq3, k_w2⟩
 have hm2 : Mem w2 (Qo w0) (Hsq3 ++ ([(b3, .cells (cl u8 nonce) 77 (0, 0))])) := Mem.new (H := [(b3, .cells (cl u8 nonce) 77 (0, 0))]) (H' := Hsq3) hm1 k_w2
 refine rA rfl (v := rq3) rfl ?_
 refine rN (Qh (sR ?_))
 refine Qb rfl (Qd (v := (i64 7)) rfl) ?_
 refine rN (Qv ?_)
 refine Jw 9 ?_
 refine Zu (Qh (sR ?_))
 refine Qb rfl (Qc (v := (i64 7)) rfl) <| Qb rfl (Y2 (a := 7) (b := 0) rfl rfl) <| rN <| Zf rfl (by decide) ?_
 refine Zc (Qi (Qh (Qv (Qg ?_))))
 refine rM rfl (v := rq3) rfl <| rM rfl (v := va) rfl <| Qb (v := (i64 (la.length : Int))) rfl (Yi (Rd.ofRest hra hm2) Z4 rfl) <| Qb rfl (J4 ⟨_, Gj⟩ X0 rfl) <| Qb rfl (Qc (v := (i64 7)) rfl) <| Qb (v := (i64 56)) rfl (Xj (a := 8) (b := 7) rfl rfl oM oM) <| Qb rfl (X7 (b := 56) rfl rfl oM) <| Qb rfl (Yv ⟨_, X0⟩ Vh rfl) <| Zo rfl (Xd u8 [((BitVec.ofInt 64 (la.length : Int)) >>> 56).setWidth 8] Q8 hm2 Z4 Yq rfl rfl rfl) ?_
 rintro _ w4 ⟨b23, rfl, _ew4, hm4⟩
 refine Zo rfl (Xt (f := u8) (Hs := Hsq3) (H := [(b23, .cells (cl u8 ([((BitVec.ofInt 64 (la.length : Int)) >>> 56).setWidth 8])) 5 (0, 0)), (b3, .cells (cl u8 nonce) 77 (0, 0))]) (Mem.pick [_] Hsq3 _ hm4) grq3 rfl rfl (Rd.mkA hm4.h0) Z4 Z4 Yq rfl Q8 sD sD) ?_
 rintro sv5 w5 ⟨Hs5, hm5, g5⟩
 replace g5 : Xx u8 5 sv5 (nonce ++ ([((BitVec.ofInt 64 (la.length : Int)) >>> 56).setWidth 8])) Hs5 := g5
 refine rA rfl (v := sv5) rfl ?_
 refine Zz (Qn ?_)
 have hm6 := Mem.drop ([(b23, .cells (cl u8 ([((BitVec.ofInt 64 (la.length : Int)) >>> 56).setWidth 8])) 5 (0, 0))]) _ (Mem.pick Hs5 [_] _ hm5)
 refine CW.abs (fun g => g 0 = (agg u8 nonce) ∧ g 1 = va ∧ g 2 = vc ∧ g 3 = (ptr b3 0) ∧ g 6 = (Value.slice none 0 0) ∧ g 7 = sv5 ∧ g 8 = (i64 7) ∧ g 12 = (bl true) ∧ True) ⟨rfl, rfl, rfl, rfl, rfl, rfl, rfl, rfl, trivial⟩ ?_
 rintro fr7 ⟨s0, s1, s2, s3, s6, s7, s8, s12, _⟩
 refine Qg <| rM rfl s8 <| Qb (v := (i64 6)) rfl (Yo (a := 7) (b := 1) rfl rfl oM oM) <| Qb rfl (Qd (v := (i64 6)) rfl) ?_
 refine rN (Zu (Qh (sR ?_)))
 refine Qb rfl (Qc (v := (i64 6)) rfl) <| Qb rfl (Y2 (a := 6) (b := 0) rfl rfl) <| rN <| Zf rfl (by decide) ?_
 refine Zc (Qi (Qh (Qv (Qg ?_))))
 refine rM rfl s7 <| rM rfl s1 <| Qb (v := (i64 (la.length : Int))) rfl (Yi (Rd.ofRest hra hm6) Z4 rfl) <| Qb rfl (J4 ⟨_, Gj⟩ X0 rfl) <| Qb rfl (Qc (v := (i64 6)) rfl) <| Qb (v := (i64 48)) rfl (Xj (a := 8) (b := 6) rfl rfl oM oM) <| Qb rfl (X7 (b := 48) rfl rfl oM) <| Qb rfl (Yv ⟨_, X0⟩ Vh rfl) <| Zo rfl (Xd u8 [((BitVec.ofInt 64 (la.length : Int)) >>> 48).setWidth 8] Q8 hm6 Z4 Yq rfl rfl rfl) ?_
 rintro _ w8 ⟨b23_1, rfl, _ew8, hm8⟩
 refine Zo rfl (Xt (f := u8) (Hs := Hs5) (H := [(b23_1, .cells (cl u8 ([((BitVec.ofInt 64 (la.length : Int)) >>> 48).setWidth 8])) 5 (0, 0)), (b3, .cells (cl u8 nonce) 77 (0, 0))]) (Mem.pick [_] Hs5 _ hm8) g5 rfl rfl (Rd.mkA hm8.h0) Z4 Z4 Yq rfl Q8 sD sD) ?_
 rintro sv9 w9 ⟨Hs9, hm9, g9⟩
 replace g9 : Xx u8 5 sv9 ((nonce ++ ([((BitVec.ofInt 64 (la.length : Int)) >>> 56).setWidth 8])) ++ ([((BitVec.ofInt 64 (la.length : Int)) >>> 48).setWidth 8])) Hs9 := g9
 refine rA rfl (v := sv9) rfl ?_
 refine Zz (Qn ?_)
 have hm10 := Mem.drop ([(b23_1, .cells (cl u8 ([((BitVec.ofInt 64 (la.length : Int)) >>> 48).setWidth 8])) 5 (0, 0))]) _ (Mem.pick Hs9 [_] _ hm9)
 refine CW.abs (fun g => g 0 = (agg u8 nonce) ∧ g 1 = va ∧ g 2 = vc ∧ g 3 = (ptr b3 0) ∧ g 6 = (Value.slice none 0 0) ∧ g 7 = sv9 ∧ g 8 = (i64 6) ∧ g 12 = (bl true) ∧ True) ⟨s0, s1, s2, s3, s6, rfl, rfl, rfl, trivial⟩ ?_
 rintro fr11 ⟨s0, s1, s2, s3, s6, s7, s8, s12, _⟩
 refine Qg <| rM rfl s8 <| Qb (v := (i64 5)) rfl (Yo (a := 6) (b := 1) rfl rfl oM oM) <| Qb rfl (Qd (v := (i64 5)) rfl) ?_
 refine rN (Zu (Qh (sR ?_)))
 refine Qb rfl (Qc (v := (i64 5)) rfl) <| Qb rfl (Y2 (a := 5) (b := 0) rfl rfl) <| rN <| Zf rfl (by decide) ?_
 refine Zc (Qi (Qh (Qv (Qg ?_))))
 refine rM rfl s7 <| rM rfl s1 <| Qb (v := (i64 (la.length : Int))) rfl (Yi (Rd.ofRest hra hm10) Z4 rfl) <| Qb rfl (J4 ⟨_, Gj⟩ X0 rfl) <| Qb rfl (Qc (v := (i64 5)) rfl) <| Qb (v := (i64 40)) rfl (Xj (a := 8) (b := 5) rfl rfl oM oM) <| Qb rfl (X7 (b := 40) rfl rfl oM) <| Qb rfl (Yv ⟨_, X0⟩ Vh rfl) <| Zo rfl (Xd u8 [((BitVec.ofInt 64 (la.length : Int)) >>> 40).setWidth 8] Q8 hm10 Z4 Yq rfl rfl rfl) ?_
 rintro _ w12 ⟨b23_2, rfl, _ew12, hm12⟩
 refine Zo rfl (Xt (f := u8) (Hs := Hs9) (H := [(b23_2, .cells (cl u8 ([((BitVec.ofInt 64 (la.length : Int)) >>> 40).setWidth 8])) 5 (0, 0)), (b3, .cells (cl u8 nonce) 77 (0, 0))]) (Mem.pick [_] Hs9 _ hm12) g9 rfl rfl (Rd.mkA hm12.h0) Z4 Z4 Yq rfl Q8 sD sD) ?_
 rintro sv13 w13 ⟨Hs13, hm13, g13⟩
 replace g13 : Xx u8 5 sv13 (((nonce ++ ([((BitVec.ofInt 64 (la.length : Int)) >>> 56).setWidth 8])) ++ ([((BitVec.ofInt 64 (la.length : Int)) >>> 48).setWidth 8])) ++ ([((BitVec.ofInt 64 (la.length : Int)) >>> 40).setWidth 8])) Hs13 := g13
 refine rA rfl (v := sv13) rfl ?_
 refine Zz (Qn ?_)
 have hm14 := Mem.drop ([(b23_2, .cells (cl u8 ([((BitVec.ofInt 64 (la.length : Int)) >>> 40).setWidth 8])) 5 (0, 0))]) _ (Mem.pick Hs13 [_] _ hm13)
 refine CW.abs (fun g => g 0 = (agg u8 nonce) ∧ g 1 = va ∧ g 2 = vc ∧ g 3 = (ptr b3 0) ∧ g 6 = (Value.slice none 0 0) ∧ g 7 = sv13 ∧ g 8 = (i64 5) ∧ g 12 = (bl true) ∧ True) ⟨s0, s1, s2, s3, s6, rfl, rfl, rfl, trivial⟩ ?_
 rintro fr15 ⟨s0, s1, s2, s3, s6, s7, s8, s12, _⟩
 refine Qg <| rM rfl s8 <| Qb (v := (i64 4)) rfl (Yo (a := 5) (b := 1) rfl rfl oM oM) <| Qb rfl (Qd (v := (i64 4)) rfl) ?_
 refine rN (Zu (Qh (sR ?_)))
 refine Qb rfl (Qc (v := (i64 4)) rfl) <| Qb rfl (Y2 (a := 4) (b := 0) rfl rfl) <| rN <| Zf rfl (by decide) ?_
 refine Zc (Qi (Qh (Qv (Qg ?_))))
 refine rM rfl s7 <| rM rfl s1 <| Qb (v := (i64 (la.length : Int))) rfl (Yi (Rd.ofRest hra hm14) Z4 rfl) <| Qb rfl (J4 ⟨_, Gj⟩ X0 rfl) <| Qb rfl (Qc (v := (i64 4)) rfl) <| Qb (v := (i64 32)) rfl (Xj (a := 8) (b := 4) rfl rfl oM oM) <| Qb rfl (X7 (b := 32) rfl rfl oM) <| Qb rfl (Yv ⟨_, X0⟩ Vh rfl) <| Zo rfl (Xd u8 [((BitVec.ofInt 64 (la.length : Int)) >>> 32).setWidth 8] Q8 hm14 Z4 Yq rfl rfl rfl) ?_
 rintro _ w16 ⟨b23_3, rfl, _ew16, hm16⟩
 refine Zo rfl (Xt (f := u8) (Hs := Hs13) (H := [(b23_3, .cells (cl u8 ([((BitVec.ofInt 64 (la.length : Int)) >>> 32).setWidth 8])) 5 (0, 0)), (b3, .cells (cl u8 nonce) 77 (0, 0))]) (Mem.pick [_] Hs13 _ hm16) g13 rfl rfl (Rd.mkA hm16.h0) Z4 Z4 Yq rfl Q8 sD sD) ?_
 rintro sv17 w17 ⟨Hs17, hm17, g17⟩
 replace g17 : Xx u8 5 sv17 ((((nonce ++ ([((BitVec.ofInt 64 (la.length : Int)) >>> 56).setWidth 8])) ++ ([((BitVec.ofInt 64 (la.length : Int)) >>> 48).setWidth 8])) ++ ([((BitVec.ofInt 64 (la.length : Int)) >>> 40).setWidth 8])) ++ ([((BitVec.ofInt 64 (la.length : Int)) >>> 32).setWidth 8])) Hs17 := g17
 refine rA rfl (v := sv17) rfl ?_
 refine Zz (Qn ?_)
 have hm18 := Mem.drop ([(b23_3, .cells (cl u8 ([((BitVec.ofInt 64 (la.length : Int)) >>> 32).setWidth 8])) 5 (0, 0))]) _ (Mem.pick Hs17 [_] _ hm17)
 refine CW.abs (fun g => g 0 = (agg u8 nonce) ∧ g 1 = va ∧ g 2 = vc ∧ g 3 = (ptr b3 0) ∧ g 6 = (Value.slice none 0 0) ∧ g 7 = sv17 ∧ g 8 = (i64 4) ∧ g 12 = (bl true) ∧ True) ⟨s0, s1, s2, s3, s6, rfl, rfl, rfl, trivial⟩ ?_
 rintro fr19 ⟨s0, s1, s2, s3, s6, s7, s8, s12, _⟩
 refine Qg <| rM rfl s8 <| Qb (v := (i64 3)) rfl (Yo (a := 4) (b := 1) rfl rfl oM oM) <| Qb rfl (Qd (v := (i64 3)) rfl) ?_
 refine rN (Zu (Qh (sR ?_)))
 refine Qb rfl (Qc (v := (i64 3)) rfl) <| Qb rfl (Y2 (a := 3) (b := 0) rfl rfl) <| rN <| Zf rfl (by decide) ?_
 refine Zc (Qi (Qh (Qv (Qg ?_))))
 refine rM rfl s7 <| rM rfl s1 <| Qb (v := (i64 (la.length : Int))) rfl (Yi (Rd.ofRest hra hm18) Z4 rfl) <| Qb rfl (J4 ⟨_, Gj⟩ X0 rfl) <| Qb rfl (Qc (v := (i64 3)) rfl) <| Qb (v := (i64 24)) rfl (Xj (a := 8) (b := 3) rfl rfl oM oM) <| Qb rfl (X7 (b := 24) rfl rfl oM) <| Qb rfl (Yv ⟨_, X0⟩ Vh rfl) <| Zo rfl (Xd u8 [((BitVec.ofInt 64 (la.length : Int)) >>> 24).setWidth 8] Q8 hm18 Z4 Yq rfl rfl rfl) ?_
 rintro _ w20 ⟨b23_4, rfl, _ew20, hm20⟩
 refine Zo rfl (Xt (f := u8) (Hs := Hs17) (H := [(b23_4, .cells (cl u8 ([((BitVec.ofInt 64 (la.length : Int)) >>> 24).setWidth 8])) 5 (0, 0)), (b3, .cells (cl u8 nonce) 77 (0, 0))]) (Mem.pick [_] Hs17 _ hm20) g17 rfl rfl (Rd.mkA hm20.h0) Z4 Z4 Yq rfl Q8 sD sD) ?_
 rintro sv21 w21 ⟨Hs21, hm21, g21⟩
 replace g21 : Xx u8 5 sv21 (((((nonce ++ ([((BitVec.ofInt 64 (la.length : Int)) >>> 56).setWidth 8])) ++ ([((BitVec.ofInt 64 (la.length : Int)) >>> 48).setWidth 8])) ++ ([((BitVec.ofInt 64 (la.length : Int)) >>> 40).setWidth 8])) ++ ([((BitVec.ofInt 64 (la.length : Int)) >>> 32).setWidth 8])) ++ ([((BitVec.ofInt 64 (la.length : Int)) >>> 24).setWidth 8])) Hs21 := g21
 refine rA rfl (v := sv21) rfl ?_
 refine Zz (Qn ?_)
 have hm22 := Mem.drop ([(b23_4, .cells (cl u8 ([((BitVec.ofInt 64 (la.length : Int)) >>> 24).setWidth 8])) 5 (0, 0))]) _ (Mem.pick Hs21 [_] _ hm21)
 refine CW.abs (fun g => g 0 = (agg u8 nonce) ∧ g 1 = va ∧ g 2 = vc ∧ g 3 = (ptr b3 0) ∧ g 6 = (Value.slice none 0 0) ∧ g 7 = sv21 ∧ g 8 = (i64 3) ∧ g 12 = (bl true) ∧ True) ⟨s0, s1, s2, s3, s6, rfl, rfl, rfl, trivial⟩ ?_
 rintro fr23 ⟨s0, s1, s2, s3, s6, s7, s8, s12, _⟩
 refine Qg <| rM rfl s8 <| Qb (v := (i64 2)) rfl (Yo (a := 3) (b := 1) rfl rfl oM oM) <| Qb rfl (Qd (v := (i64 2)) rfl) ?_
 refine rN (Zu (Qh (sR ?_)))
 refine Qb rfl (Qc (v := (i64 2)) rfl) <| Qb rfl (Y2 (a := 2) (b := 0) rfl rfl) <| rN <| Zf rfl (by decide) ?_
 refine Zc (Qi (Qh (Qv (Qg ?_))))
 refine rM rfl s7 <| rM rfl s1 <| Qb (v := (i64 (la.length : Int))) rfl (Yi (Rd.ofRest hra hm22) Z4 rfl) <| Qb rfl (J4 ⟨_, Gj⟩ X0 rfl) <| Qb rfl (Qc (v := (i64 2)) rfl) <| Qb (v := (i64 16)) rfl (Xj (a := 8) (b := 2) rfl rfl oM oM) <| Qb rfl (X7 (b := 16) rfl rfl oM) <| Qb rfl (Yv ⟨_, X0⟩ Vh rfl) <| Zo rfl (Xd u8 [((BitVec.ofInt 64 (la.length : Int)) >>> 16).setWidth 8] Q8 hm22 Z4 Yq rfl rfl rfl) ?_
 rintro _ w24 ⟨b23_5, rfl, _ew24, hm24⟩
 refine Zo rfl (Xt (f := u8) (Hs := Hs21) (H := [(b23_5, .cells (cl u8 ([((BitVec.ofInt 64 (la.length : Int)) >>> 16).setWidth 8])) 5 (0, 0)), (b3, .cells (cl u8 nonce) 77 (0, 0))]) (Mem.pick [_] Hs21 _ hm24) g21 rfl rfl (Rd.mkA hm24.h0) Z4 Z4 Yq rfl Q8 sD sD) ?_
 rintro sv25 w25 ⟨Hs25, hm25, g25⟩
 replace g25 : Xx u8 5 sv25 ((((((nonce ++ ([((BitVec.ofInt 64 (la.length : Int)) >>> 56).setWidth 8])) ++ ([((BitVec.ofInt 64 (la.length : Int)) >>> 48).setWidth 8])) ++ ([((BitVec.ofInt 64 (la.length : Int)) >>> 40).setWidth 8])) ++ ([((BitVec.ofInt 64 (la.length : Int)) >>> 32).setWidth 8])) ++ ([((BitVec.ofInt 64 (la.length : Int)) >>> 24).setWidth 8])) ++ ([((BitVec.ofInt 64 (la.length : Int)) >>> 16).setWidth 8])) Hs25 := g25
 refine rA rfl (v := sv25) rfl ?_
 refine Zz (Qn ?_)
 have hm26 := Mem.drop ([(b23_5, .cells (cl u8 ([((BitVec.ofInt 64 (la.length : Int)) >>> 16).setWidth 8])) 5 (0, 0))]) _ (Mem.pick Hs25 [_] _ hm25)
 refine CW.abs (fun g => g 0 = (agg u8 nonce) ∧ g 1 = va ∧ g 2 = vc ∧ g 3 = (ptr b3 0) ∧ g 6 = (Value.slice none 0 0) ∧ g 7 = sv25 ∧ g 8 = (i64 2) ∧ g 12 = (bl true) ∧ True) ⟨s0, s1, s2, s3, s6, rfl, rfl, rfl, trivial⟩ ?_
 rintro fr27 ⟨s0, s1, s2, s3, s6, s7, s8, s12, _⟩
 refine Qg <| rM rfl s8 <| Qb (v := (i64 1)) rfl (Yo (a := 2) (b := 1) rfl rfl oM oM) <| Qb rfl (Qd (v := (i64 1)) rfl) ?_
 refine rN (Zu (Qh (sR ?_)))
 refine Qb rfl (Qc (v := (i64 1)) rfl) <| Qb rfl (Y2 (a := 1) (b := 0) rfl rfl) <| rN <| Zf rfl (by decide) ?_
 refine Zc (Qi (Qh (Qv (Qg ?_))))
 refine rM rfl s7 <| rM rfl s1 <| Qb (v := (i64 (la.length : Int))) rfl (Yi (Rd.ofRest hra hm26) Z4 rfl) <| Qb rfl (J4 ⟨_, Gj⟩ X0 rfl) <| Qb rfl (Qc (v := (i64 1)) rfl) <| Qb (v := (i64 8)) rfl (Xj (a := 8) (b := 1) rfl rfl oM oM) <| Qb rfl (X7 (b := 8) rfl rfl oM) <| Qb rfl (Yv ⟨_, X0⟩ Vh rfl) <| Zo rfl (Xd u8 [((BitVec.ofInt 64 (la.length : Int)) >>> 8).setWidth 8] Q8 hm26 Z4 Yq rfl rfl rfl) ?_
 rintro _ w28 ⟨b23_6, rfl, _ew28, hm28⟩
 refine Zo rfl (Xt (f := u8) (Hs := Hs25) (H := [(b23_6, .cells (cl u8 ([((BitVec.ofInt 64 (la.length : Int)) >>> 8).setWidth 8])) 5 (0, 0)), (b3, .cells (cl u8 nonce) 77 (0, 0))]) (Mem.pick [_] Hs25 _ hm28) g25 rfl rfl (Rd.mkA hm28.h0) Z4 Z4 Yq rfl Q8 sD sD) ?_
 rintro sv29 w29 ⟨Hs29, hm29, g29⟩
 replace g29 : Xx u8 5 sv29 (((((((nonce ++ ([((BitVec.ofInt 64 (la.length : Int)) >>> 56).setWidth 8])) ++ ([((BitVec.ofInt 64 (la.length : Int)) >>> 48).setWidth 8])) ++ ([((BitVec.ofInt 64 (la.length : Int)) >>> 40).setWidth 8])) ++ ([((BitVec.ofInt 64 (la.length : Int)) >>> 32).setWidth 8])) ++ ([((BitVec.ofInt 64 (la.length : Int)) >>> 24).setWidth 8])) ++ ([((BitVec.ofInt 64 (la.length : Int)) >>> 16).setWidth 8])) ++ ([((BitVec.ofInt 64 (la.length : Int)) >>> 8).setWidth 8])) Hs29 := g29
 refine rA rfl (v := sv29) rfl ?_
 refine Zz (Qn ?_)
 have hm30 := Mem.drop ([(b23_6, .cells (cl u8 ([((BitVec.ofInt 64 (la.length : Int)) >>> 8).setWidth 8])) 5 (0, 0))]) _ (Mem.pick Hs29 [_] _ hm29)
 refine CW.abs (fun g => g 0 = (agg u8 nonce) ∧ g 1 = va ∧ g 2 = vc ∧ g 3 = (ptr b3 0) ∧ g 6 = (Value.slice none 0 0) ∧ g 7 = sv29 ∧ g 8 = (i64 1) ∧ g 12 = (bl true) ∧ True) ⟨s0, s1, s2, s3, s6, rfl, rfl, rfl, trivial⟩ ?_
 rintro fr31 ⟨s0, s1, s2, s3, s6, s7, s8, s12, _⟩
 refine Qg <| rM rfl s8 <| Qb (v := (i64 0)) rfl (Yo (a := 1) (b := 1) rfl rfl oM oM) <| Qb rfl (Qd (v := (i64 0)) rfl) ?_
 refine rN (Zu (Qh (sR ?_)))
 refine Qb rfl (Qc (v := (i64 0)) rfl) <| Qb rfl (Y2 (a := 0) (b := 0) rfl rfl) <| rN <| Zf rfl (by decide) ?_
 refine Zc (Qi (Qh (Qv (Qg ?_))))
 refine rM rfl s7 <| rM rfl s1 <| Qb (v := (i64 (la.length : Int))) rfl (Yi (Rd.ofRest hra hm30) Z4 rfl) <| Qb rfl (J4 ⟨_, Gj⟩ X0 rfl) <| Qb rfl (Qc (v := (i64 0)) rfl) <| Qb (v := (i64 0)) rfl (Xj (a := 8) (b := 0) rfl rfl oM oM) <| Qb rfl (X7 (b := 0) rfl rfl oM) <| Qb rfl (Yv ⟨_, X0⟩ Vh rfl) <| Zo rfl (Xd u8 [((BitVec.ofInt 64 (la.length : Int)) >>> 0).setWidth 8] Q8 hm30 Z4 Yq rfl rfl rfl) ?_
 rintro _ w32 ⟨b23_7, rfl, _ew32, hm32⟩
 refine Zo rfl (Xt (f := u8) (Hs := Hs29) (H := [(b23_7, .cells (cl u8 ([((BitVec.ofInt 64 (la.length : Int)) >>> 0).setWidth 8])) 5 (0, 0)), (b3, .cells (cl u8 nonce) 77 (0, 0))]) (Mem.pick [_] Hs29 _ hm32) g29 rfl rfl (Rd.mkA hm32.h0) Z4 Z4 Yq rfl Q8 sD sD) ?_
 rintro sv33 w33 ⟨Hs33, hm33, g33⟩
 replace g33 : Xx u8 5 sv33 ((((((((nonce ++ ([((BitVec.ofInt 64 (la.length : Int)) >>> 56).setWidth 8])) ++ ([((BitVec.ofInt 64 (la.length : Int)) >>> 48).setWidth 8])) ++ ([((BitVec.ofInt 64 (la.length : Int)) >>> 40).setWidth 8])) ++ ([((BitVec.ofInt 64 (la.length : Int)) >>> 32).setWidth 8])) ++ ([((BitVec.ofInt 64 (la.length : Int)) >>> 24).setWidth 8])) ++ ([((BitVec.ofInt 64 (la.length : Int)) >>> 16).setWidth 8])) ++ ([((BitVec.ofInt 64 (la.length : Int)) >>> 8).setWidth 8])) ++ ([((BitVec.ofInt 64 (la.length : Int)) >>> 0).setWidth 8])) Hs33 := g33
 refine rA rfl (v := sv33) rfl ?_
 refine Zz (Qn ?_)
 have hm34 := Mem.drop ([(b23_7, .cells (cl u8 ([((BitVec.ofInt 64 (la.length : Int)) >>> 0).setWidth 8])) 5 (0, 0))]) _ (Mem.pick Hs33 [_] _ hm33)
 refine CW.abs (fun g => g 0 = (agg u8 nonce) ∧ g 1 = va ∧ g 2 = vc ∧ g 3 = (ptr b3 0) ∧ g 6 = (Value.slice none 0 0) ∧ g 7 = sv33 ∧ g 8 = (i64 0) ∧ g 12 = (bl true) ∧ True) ⟨s0, s1, s2, s3, s6, rfl, rfl, rfl, trivial⟩ ?_
 rintro fr35 ⟨s0, s1, s2, s3, s6, s7, s8, s12, _⟩
 refine Qg <| rM rfl s8 <| Qb (v := (i64 (-1))) rfl (Yo (a := 0) (b := 1) rfl rfl oM oM) <| Qb rfl (Qd (v := (i64 (-1))) rfl) ?_
 refine rN (Zu (Qh (sR ?_)))
 refine Qb rfl (Qc (v := (i64 (-1))) rfl) <| Qb rfl (Y2 (a := (-1)) (b := 0) rfl rfl) <| rN <| Yt rfl (by decide) <| Yb ?_
 refine Zb (Zb (Xw ?_))
 refine sR <| rM rfl s7 <| rM rfl s1 <| Zo rfl (Xt (f := u8) (Hs := Hs33) (H := [(b3, .cells (cl u8 nonce) 77 (0, 0))]) hm34 g33 rfl rfl (Rd.ofRest hra hm34) Z4 Z4 Yq rfl Q8 sD sD) ?_
 rintro sv36 w36 ⟨Hs36, hm36, g36⟩
 replace g36 : Xx u8 5 sv36 (((((((((nonce ++ ([((BitVec.ofInt 64 (la.length : Int)) >>> 56).setWidth 8])) ++ ([((BitVec.ofInt 64 (la.length : Int)) >>> 48).setWidth 8])) ++ ([((BitVec.ofInt 64 (la.length : Int)) >>> 40).setWidth 8])) ++ ([((BitVec.ofInt 64 (la.length : Int)) >>> 32).setWidth 8])) ++ ([((BitVec.ofInt 64 (la.length : Int)) >>> 24).setWidth 8])) ++ ([((BitVec.ofInt 64 (la.length : Int)) >>> 16).setWidth 8])) ++ ([((BitVec.ofInt 64 (la.length : Int)) >>> 8).setWidth 8])) ++ ([((BitVec.ofInt 64 (la.length : Int)) >>> 0).setWidth 8])) ++ la) Hs36 := g36
 refine rM rfl s2 <| Zo rfl (Xt (f := u8) (Hs := Hs36) (H := [(b3, .cells (cl u8 nonce) 77 (0, 0))]) hm36 g36 rfl rfl (Rd.ofRest hrc hm36) Z4 Z4 Yq rfl Q8 sD sD) ?_
 rintro sv37 w37 ⟨Hs37, hm37, g37⟩
 replace g37 : Xx u8 5 sv37 ((((((((((nonce ++ ([((BitVec.ofInt 64 (la.length : Int)) >>> 56).setWidth 8])) ++ ([((BitVec.ofInt 64 (la.length : Int)) >>> 48).setWidth 8])) ++ ([((BitVec.ofInt 64 (la.length : Int)) >>> 40).setWidth 8])) ++ ([((BitVec.ofInt 64 (la.length : Int)) >>> 32).setWidth 8])) ++ ([((BitVec.ofInt 64 (la.length : Int)) >>> 24).setWidth 8])) ++ ([((BitVec.ofInt 64 (la.length : Int)) >>> 16).setWidth 8])) ++ ([((BitVec.ofInt 64 (la.length : Int)) >>> 8).setWidth 8])) ++ ([((BitVec.ofInt 64 (la.length : Int)) >>> 0).setWidth 8])) ++ la) ++ lc) Hs37 := g37
 refine rA rfl (v := sv37) rfl <| rN ?_
 refine CW.abs (fun g => g 0 = (agg u8 nonce) ∧ g 1 = va ∧ g 2 = vc ∧ g 3 = (ptr b3 0) ∧ g 6 = sv37 ∧ g 7 = sv33 ∧ g 8 = (i64 (-1)) ∧ g 12 = (bl false) ∧ True) ⟨s0, s1, s2, s3, rfl, s7, rfl, rfl, trivial⟩ ?_
 rintro fr38 ⟨s0, s1, s2, s3, s6, s7, s8, s12, _⟩
 refine Xn <| Zj [sv37] ⟨s6, trivial⟩ ?_
 have hm39 := Mem.drop ([(b3, .cells (cl u8 nonce) 77 (0, 0))]) _ (Mem.pick Hs37 [_] _ hm37)
 have hfin : (((((((((nonce ++ ([((BitVec.ofInt 64 (la.length : Int)) >>> 56).setWidth 8])) ++ ([((BitVec.ofInt 64 (la.length : Int)) >>> 48).setWidth 8])) ++ ([((BitVec.ofInt 64 (la.length : Int)) >>> 40).setWidth 8])) ++ ([((BitVec.ofInt 64 (la.length : Int)) >>> 32).setWidth 8])) ++ ([((BitVec.ofInt 64 (la.length : Int)) >>> 24).setWidth 8])) ++ ([((BitVec.ofInt 64 (la.length : Int)) >>> 16).setWidth 8])) ++ ([((BitVec.ofInt 64 (la.length : Int)) >>> 8).setWidth 8])) ++ ([((BitVec.ofInt 64 (la.length : Int)) >>> 0).setWidth 8])) ++ la) ++ lc = U0 nonce la lc := by simp [U0, len8]
 exact ⟨Hs37, hfin ▸ g37, by simpa using hm39⟩
end Go.Proofs.YtkmiemlpfkfiiaaDoor
