/- Contracts: the seal, second part. Conditions: none beyond those that each theorem states. -/
import Derived.Test.YtkmiemlpfkfiiaaDoorSe1
import Derived.Test.YtkmiemlpfkfiiaaDoorFwP
namespace Go.Proofs.YtkmiemlpfkfiiaaDoor
set_option linter.unusedVariables false
set_option linter.unusedSimpArgs false
theorem Ed (a : Value) (x : List (BitVec 8)) : Js [(a, x)] = x := by simp [Js]
attribute [local irreducible] Ya tK Qa0 V7 Vp Va En Qah H9 Yw Xp U0
set_option maxHeartbeats 1000000 in
theorem c_seal (key : List (BitVec 8)) (nonce : List (BitVec 8)) (va : Value) (la : List (BitVec 8)) (vc : Value) (lc : List (BitVec 8)) (w0 : World)  (hT : Tabs (Y3 w0)) (hk : key.length = 32) (hn : nonce.length = 12) (hra : Rd (Y3 w0) u8 va la) (hla : la.length ≤ 100000) (hrc : Rd (Y3 w0) u8 vc lc) (hlc : lc.length ≤ 100000) : X8 Tryd.prog 33 #[(agg u8 key), (agg u8 nonce), va, vc] w0 (fun r w1 => ∃ Hs, Xx u8 5 r (Eg key nonce la lc) Hs ∧ Mem w1 (Qo w0) Hs) := by
 refine Zp (args := [(agg u8 key), (agg u8 nonce), va, vc]) Tryd.func33 rfl Tryd.ntmps33 Tryd.results33 rfl ?_
 have hm0 : Mem w0 (Qo w0) [] := Mem.of_world w0
 have hkt := Qff key
 have hkm := Qfg key
 have hcl := Qc4 key nonce lc
 refine sR <| Zo rfl (X4 (f := u8) (l := key) hm0 rfl) ?_
 rintro _ w1 ⟨b4, rfl, _ew1, hm1⟩
 refine Zo rfl (X4 (f := u8) (l := nonce) hm1 rfl) ?_
 rintro _ w2 ⟨b5, rfl, _ew2, hm2⟩
 refine Qb rfl (Qd (v := (Value.slice none 0 0)) rfl) ?_
 refine rN (sR ?_)
 refine Qb (v := (agg u8 key)) rfl (Z9 Xo rfl Z5 rfl hm2.h1 sZ) <| Zo rfl (Qx Tryd.func60 bd60 nm60 (Ye rfl) (c_skeys key _ (hT.mono fun b o e => (hm2).rest b o e) sD)) ?_
 rintro _ w3 ⟨rfl, _ew3⟩
 have hm3 := hm2.ext _ew3
 refine Qb rfl (Qc (v := (Value.tuple #[(agg u8 (Y5 key)), (agg u8 (Vo key))])) rfl) <| Qb (v := (agg u8 (Y5 key))) rfl (Xu rfl rfl) <| Qb (v := (agg u8 (Vo key))) rfl (Xu rfl rfl) <| Zo rfl (Zy hm3 Z5) ?_
 rintro _ w5 ⟨b9, rfl, _ew5, hm5⟩
 refine Zo rfl (Zy hm5 Z5) ?_
 rintro _ w6 ⟨b10, rfl, _ew6, hm6⟩
 refine Xf (Zl (f := u8) (l := Y5 key) Q8 Z5 rfl rfl sD hm6.h1 sZ rfl) ?_
 rintro _ w7 uq7
 have hm7 := hm6.upd1 uq7
 refine Xf (Zl (f := u8) (l := Vo key) Q8 Z5 rfl rfl sD hm7.h0 sZ rfl) ?_
 rintro _ w8 uq8
 have hm8 := hm7.upd0 uq8
 refine rN (sR ?_)
 refine Qb (v := (agg u8 (Y5 key))) rfl (Z9 Xo rfl Z5 rfl hm8.h1 sZ) <| Qb (v := (agg u8 nonce)) rfl (Z9 Qce rfl ti77 rfl hm8.h2 sZ) <| rM rfl (v := vc) rfl <| Zo rfl (Qx Tryd.func61 bd61 nm61 (args4 rfl rfl rfl rfl) (c_turn (Y5 key) 1#32 nonce vc lc _ sD sD (Rd.ofRest hrc hm8) sD)) ?_
 rintro _ w9 ⟨bq10, rfl, k_w9⟩
 have hm9 : Mem w9 (Qo w0) [(bq10, .cells (cl u8 (Yw Xp (Y5 key) 1#32 nonce lc)) 5 (0, 0)), (b10, .cells (cl u8 (Vo key)) 23 (0, 0)), (b9, .cells (cl u8 (Y5 key)) 23 (0, 0)), (b5, .cells (cl u8 nonce) 77 (0, 0)), (b4, .cells (cl u8 key) 23 (0, 0))] := Mem.new (H := [(b10, .cells (cl u8 (Vo key)) 23 (0, 0)), (b9, .cells (cl u8 (Y5 key)) 23 (0, 0)), (b5, .cells (cl u8 nonce) 77 (0, 0)), (b4, .cells (cl u8 key) 23 (0, 0))]) (H' := [(bq10, .cells (cl u8 (Yw Xp (Y5 key) 1#32 nonce lc)) 5 (0, 0))]) hm8 k_w9
 refine rA rfl rfl <| rN ?_
 refine CW.abs (fun g => g 0 = (agg u8 key) ∧ g 1 = (agg u8 nonce) ∧ g 2 = va ∧ g 3 = vc ∧ g 4 = (ptr b4 0) ∧ g 5 = (ptr b5 0) ∧ g 8 = (Value.slice none 0 0) ∧ g 9 = (ptr b9 0) ∧ g 10 = (ptr b10 0) ∧ g 11 = (Jt bq10 0 ((Yw Xp (Y5 key) 1#32 nonce lc).length) ((Yw Xp (Y5 key) 1#32 nonce lc).length)) ∧ True) ⟨rfl, rfl, rfl, rfl, rfl, rfl, rfl, rfl, rfl, rfl, trivial⟩ ?_
 rintro fr11 ⟨s0, s1, s2, s3, s4, s5, s8, s9, s10, s11, _⟩
 refine Qh <| Kz (by kernel_rfl) ?_
 refine re_or 4 7 rfl rfl ?_ ?_
 ·
   refine re_or 5 7 rfl rfl ?_ ?_
   ·
     refine Nr [(0, false), (1, false), (2, false), (3, false), (4, true), (5, true), (6, false), (7, true)] 8 rfl (by kernel_rfl) <| Qw rfl rfl (fun _ _hx => Xg (i := 0) (j := 32) Xo Yq s10 (Zn _ _) (Zn _ _) oM sD sD) <| Qw (v := (agg u8 nonce)) rfl rfl (fun _ _hx => Z9 Qce rfl ti77 s5 (hm9.ext _hx).h3 sZ) <| dM rfl rfl s2 <| dM rfl rfl s11 ?_
     refine Lc rfl rfl (fun w12 _ew12 => ?_)
     have hm12 := hm9.ext _ew12
     refine Jr.mono (Qx Tryd.func62 bd62 nm62 (Ad rfl rfl rfl) (Qbh nonce va la (Jt bq10 0 ((Yw Xp (Y5 key) 1#32 nonce lc).length) ((Yw Xp (Y5 key) 1#32 nonce lc).length)) (Yw Xp (Y5 key) 1#32 nonce lc) _ sD (Rd.ofRest hra hm12) sD (Rd.mkA hm12.h0) sD)) ?_
     rintro rxq14 w13 ⟨Hsq14, grxq14, k_w13⟩
     refine ⟨k_w13.toExt, ?_⟩
     have hm13 : Mem w13 (Qo w0) (Hsq14 ++ ([(bq10, .cells (cl u8 (Yw Xp (Y5 key) 1#32 nonce lc)) 5 (0, 0)), (b10, .cells (cl u8 (Vo key)) 23 (0, 0)), (b9, .cells (cl u8 (Y5 key)) 23 (0, 0)), (b5, .cells (cl u8 nonce) 77 (0, 0)), (b4, .cells (cl u8 key) 23 (0, 0))])) := Mem.new (H := [(bq10, .cells (cl u8 (Yw Xp (Y5 key) 1#32 nonce lc)) 5 (0, 0)), (b10, .cells (cl u8 (Vo key)) 23 (0, 0)), (b9, .cells (cl u8 (Y5 key)) 23 (0, 0)), (b5, .cells (cl u8 nonce) 77 (0, 0)), (b4, .cells (cl u8 key) 23 (0, 0))]) (H' := Hsq14) hm12 k_w13
     refine Lc rfl rfl (fun w15 _ew15 => ?_)
     have hm15 := hm13.ext _ew15
     refine Jr.mono (Jj [rxq14] (List.all_eq_true.1 (Q9 grxq14.one Zq)) hm15 uT65 Aj rfl rfl rfl) ?_
     rintro _ w16 ⟨b27, rfl, _ew16, hm16⟩
     refine ⟨_ew16, ?_⟩
     have hm16 : Mem w16 (Qo w0) ([(b27, .cells #[rxq14] 27 (0, 0))] ++ (Hsq14 ++ ([(bq10, .cells (cl u8 (Yw Xp (Y5 key) 1#32 nonce lc)) 5 (0, 0)), (b10, .cells (cl u8 (Vo key)) 23 (0, 0)), (b9, .cells (cl u8 (Y5 key)) 23 (0, 0)), (b5, .cells (cl u8 nonce) 77 (0, 0)), (b4, .cells (cl u8 key) 23 (0, 0))]))) := hm16
     refine Gu (v := (agg u8 (Ya (Vo key) (Js ([(rxq14, U0 nonce la (Yw Xp (Y5 key) 1#32 nonce lc))]))))) rfl rfl (fun w17 _ew17 => Jr.mono (Qx Tryd.func59 bd59 nm59 (Yk rfl rfl) (Rx (sla b10 0 1 0 32 32) (Vo key) (Jt b27 0 1 1) ([(rxq14, U0 nonce la (Yw Xp (Y5 key) 1#32 nonce lc))]) _ (hT.mono fun b o e => ((hm16.ext _ew17)).rest b o e) (Rd.slaAll ((Mem.pick3 [_] Hsq14 [_] [_] _ (hm16.ext _ew17))).h0 sD) sD (Rd.mkA (f := Prod.fst) (l := [(rxq14, U0 nonce la (Yw Xp (Y5 key) 1#32 nonce lc))]) (hm16.ext _ew17).h0) (Ur (grxq14.rd (Mem.pick [_] Hsq14 _ (hm16.ext _ew17))) D9) (by rw [Ed]; simp only [L8, Fg]; omega) sD)) (by rintro _ w18 ⟨rfl, _ew18⟩; exact ⟨rfl, _ew18⟩)) ?_
     refine Lc rfl rfl (fun w20 _ew20 => ?_)
     have hm20 := hm16.ext _ew20
     refine Jr.mono (Zy hm20 Z5) ?_
     rintro _ w21 ⟨b12, rfl, _ew21, hm21⟩
     refine ⟨_ew21, ?_⟩
     refine X3 (fun w22 _ew22 => ?_)
     have hm22 := hm21.ext _ew22
     refine Xf (Zl (f := u8) (l := Ya (Vo key) (Js ([(rxq14, U0 nonce la (Yw Xp (Y5 key) 1#32 nonce lc))]))) Q8 Z5 rfl rfl sD hm22.h0 sZ rfl) ?_
     rintro _ w23 uq23
     have hm23 := hm22.upd0 uq23
     refine rN (sR ?_)
     refine rM rfl s11 <| Qb rfl (Xg (i := 0) (j := 32) Xo Yq rfl (Zn _ _) (Zn _ _) oM sD sD) <| Zo rfl (Xt (f := u8) (Hs := [(bq10, .cells (cl u8 (Yw Xp (Y5 key) 1#32 nonce lc)) 5 (0, 0))]) (H := [(b12, .cells (cl u8 (Ya (Vo key) (Js ([(rxq14, U0 nonce la (Yw Xp (Y5 key) 1#32 nonce lc))])))) 23 (0, 0)), (b27, .cells #[rxq14] 27 (0, 0))] ++ (Hsq14 ++ ([(b10, .cells (cl u8 (Vo key)) 23 (0, 0)), (b9, .cells (cl u8 (Y5 key)) 23 (0, 0)), (b5, .cells (cl u8 nonce) 77 (0, 0)), (b4, .cells (cl u8 key) 23 (0, 0))]))) (Mem.pick2 [_, _] Hsq14 [_] _ hm23) (Xx.of u8 5 bq10 (Yw Xp (Y5 key) 1#32 nonce lc)) rfl rfl (Rd.slaAll hm23.h0 sD) Z4 Z4 Yq rfl Q8 sD sD) ?_
     rintro sv24 w24 ⟨Hs24, hm24, g24⟩
     replace g24 : Xx u8 5 sv24 ((Yw Xp (Y5 key) 1#32 nonce lc) ++ (Ya (Vo key) (Js ([(rxq14, U0 nonce la (Yw Xp (Y5 key) 1#32 nonce lc))])))) Hs24 := g24
     refine rA rfl (v := sv24) rfl <| rN ?_
     have hm25 := Mem.drop ([(b27, .cells #[rxq14] 27 (0, 0))]) _ (Mem.pick2 Hs24 [_] [_] _ hm24)
     have hm26 := Mem.drop Hsq14 _ (Mem.pick2 Hs24 [_] Hsq14 _ hm25)
     refine CW.abs (fun g => g 0 = (agg u8 key) ∧ g 1 = (agg u8 nonce) ∧ g 2 = va ∧ g 3 = vc ∧ g 4 = (ptr b4 0) ∧ g 5 = (ptr b5 0) ∧ g 8 = sv24 ∧ g 9 = (ptr b9 0) ∧ g 10 = (ptr b10 0) ∧ g 11 = (Jt bq10 0 ((Yw Xp (Y5 key) 1#32 nonce lc).length) ((Yw Xp (Y5 key) 1#32 nonce lc).length)) ∧ g 12 = (ptr b12 0) ∧ True) ⟨s0, s1, s2, s3, s4, s5, rfl, s9, s10, s11, rfl, trivial⟩ ?_
     rintro fr27 ⟨s0, s1, s2, s3, s4, s5, s8, s9, s10, s11, s12, _⟩
     refine Xn <| Zj [sv24] ⟨s8, trivial⟩ ?_
     have hm28 := Mem.drop ([(b12, .cells (cl u8 (Ya (Vo key) (Js ([(rxq14, U0 nonce la (Yw Xp (Y5 key) 1#32 nonce lc))])))) 23 (0, 0))]) _ (Mem.pick Hs24 [_] _ hm26)
     have hm29 := Mem.drop ([(b10, .cells (cl u8 (Vo key)) 23 (0, 0))]) _ (Mem.pick Hs24 [_] _ hm28)
     have hm30 := Mem.drop ([(b9, .cells (cl u8 (Y5 key)) 23 (0, 0))]) _ (Mem.pick Hs24 [_] _ hm29)
     have hm31 := Mem.drop ([(b5, .cells (cl u8 nonce) 77 (0, 0))]) _ (Mem.pick Hs24 [_] _ hm30)
     have hm32 := Mem.drop ([(b4, .cells (cl u8 key) 23 (0, 0))]) _ (Mem.pick Hs24 [_] _ hm31)
     have hfin : (Yw Xp (Y5 key) 1#32 nonce lc) ++ (Ya (Vo key) (Js ([(rxq14, U0 nonce la (Yw Xp (Y5 key) 1#32 nonce lc))]))) = Eg key nonce la lc := by simp only [Eg, tagP, Pg, Ed, Y5, Vo]
     exact ⟨Hs24, hfin ▸ g24, by simpa using hm32⟩
   ·
     refine Nr [(0, false), (1, false), (2, false), (3, false), (4, true), (7, true), (5, true), (6, false)] 8 rfl (by kernel_rfl) <| Qw rfl rfl (fun _ _hx => Xg (i := 0) (j := 32) Xo Yq s10 (Zn _ _) (Zn _ _) oM sD sD) <| Qw (v := (agg u8 nonce)) rfl rfl (fun _ _hx => Z9 Qce rfl ti77 s5 (hm9.ext _hx).h3 sZ) <| dM rfl rfl s2 <| dM rfl rfl s11 ?_
     refine Lc rfl rfl (fun w33 _ew33 => ?_)
     have hm33 := hm9.ext _ew33
     refine Jr.mono (Qx Tryd.func62 bd62 nm62 (Ad rfl rfl rfl) (Qbh nonce va la (Jt bq10 0 ((Yw Xp (Y5 key) 1#32 nonce lc).length) ((Yw Xp (Y5 key) 1#32 nonce lc).length)) (Yw Xp (Y5 key) 1#32 nonce lc) _ sD (Rd.ofRest hra hm33) sD (Rd.mkA hm33.h0) sD)) ?_
     rintro rxq35 w34 ⟨Hsq35, grxq35, k_w34⟩
     refine ⟨k_w34.toExt, ?_⟩
     have hm34 : Mem w34 (Qo w0) (Hsq35 ++ ([(bq10, .cells (cl u8 (Yw Xp (Y5 key) 1#32 nonce lc)) 5 (0, 0)), (b10, .cells (cl u8 (Vo key)) 23 (0, 0)), (b9, .cells (cl u8 (Y5 key)) 23 (0, 0)), (b5, .cells (cl u8 nonce) 77 (0, 0)), (b4, .cells (cl u8 key) 23 (0, 0))])) := Mem.new (H := [(bq10, .cells (cl u8 (Yw Xp (Y5 key) 1#32 nonce lc)) 5 (0, 0)), (b10, .cells (cl u8 (Vo key)) 23 (0, 0)), (b9, .cells (cl u8 (Y5 key)) 23 (0, 0)), (b5, .cells (cl u8 nonce) 77 (0, 0)), (b4, .cells (cl u8 key) 23 (0, 0))]) (H' := Hsq35) hm33 k_w34
     refine Lc rfl rfl (fun w36 _ew36 => ?_)
     have hm36 := hm34.ext _ew36
     refine Jr.mono (Zy hm36 Z5) ?_
     rintro _ w37 ⟨b12_1, rfl, _ew37, hm37⟩
     refine ⟨_ew37, ?_⟩
     refine Lc rfl rfl (fun w38 _ew38 => ?_)
     have hm38 := hm37.ext _ew38
     refine Jr.mono (Jj [rxq35] (List.all_eq_true.1 (Q9 grxq35.one Zq)) hm38 uT65 Aj rfl rfl rfl) ?_
     rintro _ w39 ⟨b27_1, rfl, _ew39, hm39⟩
     refine ⟨_ew39, ?_⟩
     have hm39 : Mem w39 (Qo w0) ([(b27_1, .cells #[rxq35] 27 (0, 0)), (b12_1, .cells (cl u8 (List.replicate 32 0)) 23 (0, 0))] ++ (Hsq35 ++ ([(bq10, .cells (cl u8 (Yw Xp (Y5 key) 1#32 nonce lc)) 5 (0, 0)), (b10, .cells (cl u8 (Vo key)) 23 (0, 0)), (b9, .cells (cl u8 (Y5 key)) 23 (0, 0)), (b5, .cells (cl u8 nonce) 77 (0, 0)), (b4, .cells (cl u8 key) 23 (0, 0))]))) := hm39
     refine Gu (v := (agg u8 (Ya (Vo key) (Js ([(rxq35, U0 nonce la (Yw Xp (Y5 key) 1#32 nonce lc))]))))) rfl rfl (fun w40 _ew40 => Jr.mono (Qx Tryd.func59 bd59 nm59 (Yk rfl rfl) (Rx (sla b10 0 1 0 32 32) (Vo key) (Jt b27_1 0 1 1) ([(rxq35, U0 nonce la (Yw Xp (Y5 key) 1#32 nonce lc))]) _ (hT.mono fun b o e => ((hm39.ext _ew40)).rest b o e) (Rd.slaAll ((Mem.pick3 [_, _] Hsq35 [_] [_] _ (hm39.ext _ew40))).h0 sD) sD (Rd.mkA (f := Prod.fst) (l := [(rxq35, U0 nonce la (Yw Xp (Y5 key) 1#32 nonce lc))]) (hm39.ext _ew40).h0) (Ur (grxq35.rd (Mem.pick [_, _] Hsq35 _ (hm39.ext _ew40))) D9) (by rw [Ed]; simp only [L8, Fg]; omega) sD)) (by rintro _ w41 ⟨rfl, _ew41⟩; exact ⟨rfl, _ew41⟩)) ?_
     refine X3 (fun w43 _ew43 => ?_)
     have hm43 := hm39.ext _ew43
     refine Xf (Zl (f := u8) (l := Ya (Vo key) (Js ([(rxq35, U0 nonce la (Yw Xp (Y5 key) 1#32 nonce lc))]))) Q8 Z5 rfl rfl sD hm43.h1 sZ rfl) ?_
     rintro _ w44 uq44
     have hm44 := hm43.upd1 uq44
     refine rN (sR ?_)
     refine rM rfl s11 <| Qb rfl (Xg (i := 0) (j := 32) Xo Yq rfl (Zn _ _) (Zn _ _) oM sD sD) <| Zo rfl (Xt (f := u8) (Hs := [(bq10, .cells (cl u8 (Yw Xp (Y5 key) 1#32 nonce lc)) 5 (0, 0))]) (H := [(b27_1, .cells #[rxq35] 27 (0, 0)), (b12_1, .cells (cl u8 (Ya (Vo key) (Js ([(rxq35, U0 nonce la (Yw Xp (Y5 key) 1#32 nonce lc))])))) 23 (0, 0))] ++ (Hsq35 ++ ([(b10, .cells (cl u8 (Vo key)) 23 (0, 0)), (b9, .cells (cl u8 (Y5 key)) 23 (0, 0)), (b5, .cells (cl u8 nonce) 77 (0, 0)), (b4, .cells (cl u8 key) 23 (0, 0))]))) (Mem.pick2 [_, _] Hsq35 [_] _ hm44) (Xx.of u8 5 bq10 (Yw Xp (Y5 key) 1#32 nonce lc)) rfl rfl (Rd.slaAll hm44.h1 sD) Z4 Z4 Yq rfl Q8 sD sD) ?_
     rintro sv45 w45 ⟨Hs45, hm45, g45⟩
     replace g45 : Xx u8 5 sv45 ((Yw Xp (Y5 key) 1#32 nonce lc) ++ (Ya (Vo key) (Js ([(rxq35, U0 nonce la (Yw Xp (Y5 key) 1#32 nonce lc))])))) Hs45 := g45
     refine rA rfl (v := sv45) rfl <| rN ?_
     have hm46 := Mem.drop ([(b27_1, .cells #[rxq35] 27 (0, 0))]) _ (Mem.pick Hs45 [_] _ hm45)
     have hm47 := Mem.drop Hsq35 _ (Mem.pick2 Hs45 [_] Hsq35 _ hm46)
     refine CW.abs (fun g => g 0 = (agg u8 key) ∧ g 1 = (agg u8 nonce) ∧ g 2 = va ∧ g 3 = vc ∧ g 4 = (ptr b4 0) ∧ g 5 = (ptr b5 0) ∧ g 8 = sv45 ∧ g 9 = (ptr b9 0) ∧ g 10 = (ptr b10 0) ∧ g 11 = (Jt bq10 0 ((Yw Xp (Y5 key) 1#32 nonce lc).length) ((Yw Xp (Y5 key) 1#32 nonce lc).length)) ∧ g 12 = (ptr b12_1 0) ∧ True) ⟨s0, s1, s2, s3, s4, s5, rfl, s9, s10, s11, rfl, trivial⟩ ?_
     rintro fr48 ⟨s0, s1, s2, s3, s4, s5, s8, s9, s10, s11, s12, _⟩
     refine Xn <| Zj [sv45] ⟨s8, trivial⟩ ?_
     have hm49 := Mem.drop ([(b12_1, .cells (cl u8 (Ya (Vo key) (Js ([(rxq35, U0 nonce la (Yw Xp (Y5 key) 1#32 nonce lc))])))) 23 (0, 0))]) _ (Mem.pick Hs45 [_] _ hm47)
     have hm50 := Mem.drop ([(b10, .cells (cl u8 (Vo key)) 23 (0, 0))]) _ (Mem.pick Hs45 [_] _ hm49)
     have hm51 := Mem.drop ([(b9, .cells (cl u8 (Y5 key)) 23 (0, 0))]) _ (Mem.pick Hs45 [_] _ hm50)
     have hm52 := Mem.drop ([(b5, .cells (cl u8 nonce) 77 (0, 0))]) _ (Mem.pick Hs45 [_] _ hm51)
     have hm53 := Mem.drop ([(b4, .cells (cl u8 key) 23 (0, 0))]) _ (Mem.pick Hs45 [_] _ hm52)
     have hfin : (Yw Xp (Y5 key) 1#32 nonce lc) ++ (Ya (Vo key) (Js ([(rxq35, U0 nonce la (Yw Xp (Y5 key) 1#32 nonce lc))]))) = Eg key nonce la lc := by simp only [Eg, tagP, Pg, Ed, Y5, Vo]
     exact ⟨Hs45, hfin ▸ g45, by simpa using hm53⟩
 ·
   refine Nr [(0, false), (1, false), (2, false), (3, false), (7, true), (4, true), (5, true), (6, false)] 8 rfl (by kernel_rfl) <| Qw rfl rfl (fun _ _hx => Xg (i := 0) (j := 32) Xo Yq s10 (Zn _ _) (Zn _ _) oM sD sD) <| Qw (v := (agg u8 nonce)) rfl rfl (fun _ _hx => Z9 Qce rfl ti77 s5 (hm9.ext _hx).h3 sZ) <| dM rfl rfl s2 <| dM rfl rfl s11 ?_
   refine Lc rfl rfl (fun w54 _ew54 => ?_)
   have hm54 := hm9.ext _ew54
   refine Jr.mono (Zy hm54 Z5) ?_
   rintro _ w55 ⟨b12_2, rfl, _ew55, hm55⟩
   refine ⟨_ew55, ?_⟩
   refine Lc rfl rfl (fun w56 _ew56 => ?_)
   have hm56 := hm55.ext _ew56
   refine Jr.mono (Qx Tryd.func62 bd62 nm62 (Ad rfl rfl rfl) (Qbh nonce va la (Jt bq10 0 ((Yw Xp (Y5 key) 1#32 nonce lc).length) ((Yw Xp (Y5 key) 1#32 nonce lc).length)) (Yw Xp (Y5 key) 1#32 nonce lc) _ sD (Rd.ofRest hra hm56) sD (Rd.mkA hm56.h1) sD)) ?_
   rintro rxq58 w57 ⟨Hsq58, grxq58, k_w57⟩
   refine ⟨k_w57.toExt, ?_⟩
   have hm57 : Mem w57 (Qo w0) (Hsq58 ++ ([(b12_2, .cells (cl u8 (List.replicate 32 0)) 23 (0, 0)), (bq10, .cells (cl u8 (Yw Xp (Y5 key) 1#32 nonce lc)) 5 (0, 0)), (b10, .cells (cl u8 (Vo key)) 23 (0, 0)), (b9, .cells (cl u8 (Y5 key)) 23 (0, 0)), (b5, .cells (cl u8 nonce) 77 (0, 0)), (b4, .cells (cl u8 key) 23 (0, 0))])) := Mem.new (H := [(b12_2, .cells (cl u8 (List.replicate 32 0)) 23 (0, 0)), (bq10, .cells (cl u8 (Yw Xp (Y5 key) 1#32 nonce lc)) 5 (0, 0)), (b10, .cells (cl u8 (Vo key)) 23 (0, 0)), (b9, .cells (cl u8 (Y5 key)) 23 (0, 0)), (b5, .cells (cl u8 nonce) 77 (0, 0)), (b4, .cells (cl u8 key) 23 (0, 0))]) (H' := Hsq58) hm56 k_w57
   refine Lc rfl rfl (fun w59 _ew59 => ?_)
   have hm59 := hm57.ext _ew59
   refine Jr.mono (Jj [rxq58] (List.all_eq_true.1 (Q9 grxq58.one Zq)) hm59 uT65 Aj rfl rfl rfl) ?_
   rintro _ w60 ⟨b27_2, rfl, _ew60, hm60⟩
   refine ⟨_ew60, ?_⟩
   have hm60 : Mem w60 (Qo w0) ([(b27_2, .cells #[rxq58] 27 (0, 0))] ++ (Hsq58 ++ ([(b12_2, .cells (cl u8 (List.replicate 32 0)) 23 (0, 0)), (bq10, .cells (cl u8 (Yw Xp (Y5 key) 1#32 nonce lc)) 5 (0, 0)), (b10, .cells (cl u8 (Vo key)) 23 (0, 0)), (b9, .cells (cl u8 (Y5 key)) 23 (0, 0)), (b5, .cells (cl u8 nonce) 77 (0, 0)), (b4, .cells (cl u8 key) 23 (0, 0))]))) := hm60
   refine Gu (v := (agg u8 (Ya (Vo key) (Js ([(rxq58, U0 nonce la (Yw Xp (Y5 key) 1#32 nonce lc))]))))) rfl rfl (fun w61 _ew61 => Jr.mono (Qx Tryd.func59 bd59 nm59 (Yk rfl rfl) (Rx (sla b10 0 1 0 32 32) (Vo key) (Jt b27_2 0 1 1) ([(rxq58, U0 nonce la (Yw Xp (Y5 key) 1#32 nonce lc))]) _ (hT.mono fun b o e => ((hm60.ext _ew61)).rest b o e) (Rd.slaAll ((Mem.pick3 [_] Hsq58 [_, _] [_] _ (hm60.ext _ew61))).h0 sD) sD (Rd.mkA (f := Prod.fst) (l := [(rxq58, U0 nonce la (Yw Xp (Y5 key) 1#32 nonce lc))]) (hm60.ext _ew61).h0) (Ur (grxq58.rd (Mem.pick [_] Hsq58 _ (hm60.ext _ew61))) D9) (by rw [Ed]; simp only [L8, Fg]; omega) sD)) (by rintro _ w62 ⟨rfl, _ew62⟩; exact ⟨rfl, _ew62⟩)) ?_
   refine X3 (fun w64 _ew64 => ?_)
   have hm64 := hm60.ext _ew64
   refine Xf (Zl (f := u8) (l := Ya (Vo key) (Js ([(rxq58, U0 nonce la (Yw Xp (Y5 key) 1#32 nonce lc))]))) Q8 Z5 rfl rfl sD ((Mem.pick2 [_] Hsq58 [_] _ hm64)).h0 sZ rfl) ?_
   rintro _ w65 uq65
   have hm65 : Mem w65 (Qo w0) ([(b12_2, .cells (cl u8 (Ya (Vo key) (Js ([(rxq58, U0 nonce la (Yw Xp (Y5 key) 1#32 nonce lc))])))) 23 (0, 0)), (b27_2, .cells #[rxq58] 27 (0, 0))] ++ (Hsq58 ++ ([(bq10, .cells (cl u8 (Yw Xp (Y5 key) 1#32 nonce lc)) 5 (0, 0)), (b10, .cells (cl u8 (Vo key)) 23 (0, 0)), (b9, .cells (cl u8 (Y5 key)) 23 (0, 0)), (b5, .cells (cl u8 nonce) 77 (0, 0)), (b4, .cells (cl u8 key) 23 (0, 0))]))) := Mem.upd0 (Mem.pick2 [_] Hsq58 [_] _ hm64) uq65
   refine rN (sR ?_)
   refine rM rfl s11 <| Qb rfl (Xg (i := 0) (j := 32) Xo Yq rfl (Zn _ _) (Zn _ _) oM sD sD) <| Zo rfl (Xt (f := u8) (Hs := [(bq10, .cells (cl u8 (Yw Xp (Y5 key) 1#32 nonce lc)) 5 (0, 0))]) (H := [(b12_2, .cells (cl u8 (Ya (Vo key) (Js ([(rxq58, U0 nonce la (Yw Xp (Y5 key) 1#32 nonce lc))])))) 23 (0, 0)), (b27_2, .cells #[rxq58] 27 (0, 0))] ++ (Hsq58 ++ ([(b10, .cells (cl u8 (Vo key)) 23 (0, 0)), (b9, .cells (cl u8 (Y5 key)) 23 (0, 0)), (b5, .cells (cl u8 nonce) 77 (0, 0)), (b4, .cells (cl u8 key) 23 (0, 0))]))) (Mem.pick2 [_, _] Hsq58 [_] _ hm65) (Xx.of u8 5 bq10 (Yw Xp (Y5 key) 1#32 nonce lc)) rfl rfl (Rd.slaAll hm65.h0 sD) Z4 Z4 Yq rfl Q8 sD sD) ?_
   rintro sv66 w66 ⟨Hs66, hm66, g66⟩
   replace g66 : Xx u8 5 sv66 ((Yw Xp (Y5 key) 1#32 nonce lc) ++ (Ya (Vo key) (Js ([(rxq58, U0 nonce la (Yw Xp (Y5 key) 1#32 nonce lc))])))) Hs66 := g66
   refine rA rfl (v := sv66) rfl <| rN ?_
   have hm67 := Mem.drop ([(b27_2, .cells #[rxq58] 27 (0, 0))]) _ (Mem.pick2 Hs66 [_] [_] _ hm66)
   have hm68 := Mem.drop Hsq58 _ (Mem.pick2 Hs66 [_] Hsq58 _ hm67)
   refine CW.abs (fun g => g 0 = (agg u8 key) ∧ g 1 = (agg u8 nonce) ∧ g 2 = va ∧ g 3 = vc ∧ g 4 = (ptr b4 0) ∧ g 5 = (ptr b5 0) ∧ g 8 = sv66 ∧ g 9 = (ptr b9 0) ∧ g 10 = (ptr b10 0) ∧ g 11 = (Jt bq10 0 ((Yw Xp (Y5 key) 1#32 nonce lc).length) ((Yw Xp (Y5 key) 1#32 nonce lc).length)) ∧ g 12 = (ptr b12_2 0) ∧ True) ⟨s0, s1, s2, s3, s4, s5, rfl, s9, s10, s11, rfl, trivial⟩ ?_
   rintro fr69 ⟨s0, s1, s2, s3, s4, s5, s8, s9, s10, s11, s12, _⟩
   refine Xn <| Zj [sv66] ⟨s8, trivial⟩ ?_
   have hm70 := Mem.drop ([(b12_2, .cells (cl u8 (Ya (Vo key) (Js ([(rxq58, U0 nonce la (Yw Xp (Y5 key) 1#32 nonce lc))])))) 23 (0, 0))]) _ (Mem.pick Hs66 [_] _ hm68)
   have hm71 := Mem.drop ([(b10, .cells (cl u8 (Vo key)) 23 (0, 0))]) _ (Mem.pick Hs66 [_] _ hm70)
   have hm72 := Mem.drop ([(b9, .cells (cl u8 (Y5 key)) 23 (0, 0))]) _ (Mem.pick Hs66 [_] _ hm71)
   have hm73 := Mem.drop ([(b5, .cells (cl u8 nonce) 77 (0, 0))]) _ (Mem.pick Hs66 [_] _ hm72)
   have hm74 := Mem.drop ([(b4, .cells (cl u8 key) 23 (0, 0))]) _ (Mem.pick Hs66 [_] _ hm73)
   have hfin : (Yw Xp (Y5 key) 1#32 nonce lc) ++ (Ya (Vo key) (Js ([(rxq58, U0 nonce la (Yw Xp (Y5 key) 1#32 nonce lc))]))) = Eg key nonce la lc := by simp only [Eg, tagP, Pg, Ed, Y5, Vo]
   exact ⟨Hs66, hfin ▸ g66, by simpa using hm74⟩
end Go.Proofs.YtkmiemlpfkfiiaaDoor
