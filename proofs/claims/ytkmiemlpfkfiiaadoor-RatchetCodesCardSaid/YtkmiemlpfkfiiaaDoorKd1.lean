/- Contracts: kdf, first part. Conditions: none beyond those that each theorem states. -/
import Derived.Test.YtkmiemlpfkfiiaaDoorFwO
import Derived.Test.YtkmiemlpfkfiiaaDoorHa7
namespace Go.Proofs.YtkmiemlpfkfiiaaDoor
set_option linter.unusedVariables false
set_option linter.unusedSimpArgs false
def tK (key info : List (BitVec 8)) : Nat → List (BitVec 8)
  | 0 => []
  | i + 1 => Ya key (tK key info i ++ info ++ [BitVec.ofNat 8 (i + 1)])
theorem tK_zero (key info : List (BitVec 8)) : tK key info 0 = [] := rfl
theorem Qea (key info : List (BitVec 8)) (i : Nat) : tK key info (i + 1) = Ya key (tK key info i ++ info ++ [BitVec.ofNat 8 (i + 1)]) := rfl
theorem tK_le (key info : List (BitVec 8)) (i : Nat) : (tK key info i).length ≤ 32 := by
  cases i with
  | zero => simp [tK]
  | succ i => rw [Qea, V3]; omega
theorem tK_len (key info : List (BitVec 8)) (i : Nat) : (tK key info (i + 1)).length = 32 := by rw [Qea, V3]
def Qa0 (key info : List (BitVec 8)) : Nat → List (BitVec 8)
  | 0 => []
  | i + 1 => Qa0 key info i ++ tK key info (i + 1)
theorem Qhd (key info : List (BitVec 8)) : Qa0 key info 0 = [] := rfl
theorem Qdp (key info : List (BitVec 8)) (i : Nat) : Qa0 key info (i + 1) = Qa0 key info i ++ tK key info (i + 1) := rfl
theorem Qe8 (key info : List (BitVec 8)) (i : Nat) : (Qa0 key info i).length = 32 * i := by
  induction i with
  | zero => rfl
  | succ i ih => rw [Qdp, List.length_append, ih, tK_len]; omega
def V7 (key info : List (BitVec 8)) (n : Nat) : List (BitVec 8) := (Qa0 key info ((n + 31) / 32)).take n
@[simp] theorem Ud (key info : List (BitVec 8)) (n : Nat) : (V7 key info n).length = n := by unfold V7; rw [List.length_take, Qe8]; omega
def Qb6 (n : Int) : Bool := decide (n < 0) || decide (8160 < n)
def H9 (n : Int) : Int := if Qb6 n then 2 else 0
def En (key info : List (BitVec 8)) (n : Int) : List (BitVec 8) := if Qb6 n then [] else V7 key info n.toNat
theorem Qbt (a b c : Value) (x y z : List (BitVec 8)) : Js [(a, x), (b, y), (c, z)] = x ++ y ++ z := by simp [Js]
theorem Qh7 (k : Nat) : BitVec.ofNat 8 (k + 1) + 1#8 = BitVec.ofNat 8 (k + 1 + 1) := by simp [BitVec.ofNat_add]
def saltP (salt : List (BitVec 8)) : List (BitVec 8) := if salt.length = 0 then List.replicate 32 0 else salt
def Vp (salt secret : List (BitVec 8)) : List (BitVec 8) := Ya (saltP salt) secret
@[simp] theorem Qia (salt secret : List (BitVec 8)) : (Vp salt secret).length = 32 := V3 _ _
attribute [local irreducible] Ya tK Qa0
set_option maxHeartbeats 1000000 in
theorem c_expand (key : List (BitVec 8)) (vi : Value) (info : List (BitVec 8)) (n : Int) (w0 : World)  (hT : Tabs (Y3 w0)) (hk : key.length = 32) (hri : Rd (Y3 w0) u8 vi info) (hli : info.length ≤ 1048576) : X8 Tryd.prog 95 #[(agg u8 key), vi, (i64 n)] w0 (fun r w1 => ∃ v Hs, r = Value.tuple #[v, i64 (H9 n)] ∧ Xx u8 5 v (En key info n) Hs ∧ Mem w1 (Qo w0) Hs) := by
 refine Zp (args := [(agg u8 key), vi, (i64 n)]) Tryd.func95 rfl Tryd.ntmps95 Tryd.results95 rfl ?_
 have hm0 : Mem w0 (Qo w0) [] := Mem.of_world w0
 refine sR <| Zo rfl (X4 (f := u8) (l := key) hm0 rfl) ?_
 rintro _ w1 ⟨b3, rfl, _ew1, hm1⟩
 refine Qb rfl (Qd (v := (Value.slice none 0 0)) rfl) <| Qb rfl (Qd (v := (i64 0)) rfl) ?_
 refine rN (Qh (sR ?_))
 refine Qb rfl (Qc (v := (i64 n)) rfl) <| Qb rfl (Qs (b := 0) rfl rfl) <| Qb rfl (Qc (v := (bl (decide (n < 0)))) rfl) ?_
 rcases Bool.eq_false_or_eq_true (decide (n < 0)) with hb2 | hb2
 ·
   have hb2p := of_decide_eq_true hb2
   refine Zh (s := 14) rfl rfl hb2 rfl <| Zh (s := 14) rfl rfl hb2 rfl <| Qb rfl (Xk rfl hb2 rfl) <| rN <| Zf rfl (by decide) <| sR <| Qb rfl (Qd (v := (Value.slice none 0 0)) rfl) <| Qb rfl (Qd (v := (i64 2)) rfl) <| rN ?_
   refine CW.abs (fun g => g 0 = (agg u8 key) ∧ g 1 = vi ∧ g 2 = (i64 n) ∧ g 3 = (ptr b3 0) ∧ g 6 = (Value.slice none 0 0) ∧ g 7 = (i64 2) ∧ g 17 = (bl true) ∧ True) ⟨rfl, rfl, rfl, rfl, rfl, rfl, rfl, trivial⟩ ?_
   rintro fr3 ⟨s0, s1, s2, s3, s6, s7, s17, _⟩
   refine Xn (Jv ?_)
   refine Zj [(Value.slice none 0 0), (i64 2)] ⟨s6, s7, trivial⟩ ?_
   have hbad : Qb6 n = true := by simp [Qb6]; omega
   have hm4 := Mem.drop ([(b3, .cells (cl u8 key) 23 (0, 0))]) _ hm1
   exact ⟨Value.slice none 0 0, [], by unfold H9; rw [if_pos hbad]; rfl, by unfold En; rw [if_pos hbad]; exact Xx.none _ _, hm4⟩
 ·
   have hb2p := of_decide_eq_false hb2
   refine Q7 (s := 14) rfl rfl hb2 rfl (Qc (v := (i64 n)) rfl) <| Q7 (s := 14) rfl rfl hb2 rfl (U9 (b := 8160) rfl rfl) <| Qb rfl (Xe rfl hb2 rfl) <| rN ?_
   refine Xy rfl (fun hc5 => ?_) (fun hc5 => ?_)
   ·
     have hc5p := of_decide_eq_true hc5
     refine sR <| Qb rfl (Qd (v := (Value.slice none 0 0)) rfl) <| Qb rfl (Qd (v := (i64 2)) rfl) <| rN ?_
     refine CW.abs (fun g => g 0 = (agg u8 key) ∧ g 1 = vi ∧ g 2 = (i64 n) ∧ g 3 = (ptr b3 0) ∧ g 6 = (Value.slice none 0 0) ∧ g 7 = (i64 2) ∧ g 17 = (bl (decide (8160 < n))) ∧ True) ⟨rfl, rfl, rfl, rfl, rfl, rfl, rfl, trivial⟩ ?_
     rintro fr6 ⟨s0, s1, s2, s3, s6, s7, s17, _⟩
     refine Xn (Jv ?_)
     refine Zj [(Value.slice none 0 0), (i64 2)] ⟨s6, s7, trivial⟩ ?_
     have hbad : Qb6 n = true := by simp [Qb6]; omega
     have hm7 := Mem.drop ([(b3, .cells (cl u8 key) 23 (0, 0))]) _ hm1
     exact ⟨Value.slice none 0 0, [], by unfold H9; rw [if_pos hbad]; rfl, by unfold En; rw [if_pos hbad]; exact Xx.none _ _, hm7⟩
   ·
     have hc5p := of_decide_eq_false hc5
     refine Zc (Qi (sR ?_))
     refine Qb rfl (Qc (v := (i64 n)) rfl) <| Qb rfl (Qk (b := 32) rfl rfl oM oM) <| Zo rfl (Fh hm1 Z4 Yq rfl rfl oM oM oM oM) ?_
     rintro _ w8 ⟨b20, rfl, _ew8, hm8⟩
     rw [Bl u8 0 rfl] at hm8
     obtain ⟨Hs8, hm8, g8⟩ : ∃ Hs, Mem w8 (Qo w0) (Hs ++ [(b3, .cells (cl u8 key) 23 (0, 0))]) ∧ Xx u8 5 (Jt b20 0 0 ((n + 32 : Int).toNat)) [] Hs := ⟨_, hm8, Xx.made0 u8 5 b20 (0 : BitVec 8) ((n + 32 : Int).toNat)⟩
     refine Qb rfl (Qd (v := (Jt b20 0 0 ((n + 32 : Int).toNat))) rfl) <| rN ?_
     refine CW.abs (fun g => g 0 = (agg u8 key) ∧ g 1 = vi ∧ g 2 = (i64 n) ∧ g 3 = (ptr b3 0) ∧ g 6 = (Value.slice none 0 0) ∧ g 7 = (i64 0) ∧ g 8 = (Jt b20 0 0 ((n + 32 : Int).toNat)) ∧ g 17 = (bl (decide (8160 < n))) ∧ True) ⟨rfl, rfl, rfl, rfl, rfl, rfl, rfl, rfl, trivial⟩ ?_
     rintro fr9 ⟨s0, s1, s2, s3, s6, s7, s8, s17, _⟩
     refine sR <| Qb rfl (Qd (v := (Value.slice none 0 0)) rfl) ?_
     refine rN (Qh (sR ?_))
     refine Qb rfl (Qd (v := (u8 1#8)) rfl) ?_
     refine rN (Qv ?_)
     refine Jg (fun g wv => ∃ (k : Nat) (ol : List (BitVec 8)) (so : Value) (Ho : List (Nat × Obj)) (vl : Value) (Hl : List (Nat × Obj)), (k = 0 ∨ 32 * ((k : Int) - 1) < n) ∧ (ol = Qa0 key info k) ∧ (Xx u8 5 so ol Ho) ∧ (Xx u8 23 vl (tK key info k) Hl) ∧ g 0 = (agg u8 key) ∧ g 1 = vi ∧ g 2 = (i64 n) ∧ g 3 = (ptr b3 0) ∧ g 6 = (Value.slice none 0 0) ∧ g 7 = (i64 0) ∧ g 8 = so ∧ g 9 = vl ∧ g 10 = (u8 (BitVec.ofNat 8 (k + 1))) ∧ g 17 = (bl (decide (8160 < n))) ∧ Mem wv (Qo w0) (Ho ++ (Hl ++ ([(b3, .cells (cl u8 key) 23 (0, 0))])))) (fun g wv => n.toNat + 1 - sllen (g 8)) ?_ ?_
     · exact ⟨0, [], (Jt b20 0 0 ((n + 32 : Int).toNat)), Hs8, (Value.slice none 0 0), [], (.inl rfl), (Qhd _ _).symm, g8, ((tK_zero key info).symm ▸ Xx.none u8 23), s0, s1, s2, s3, s6, s7, s8, rfl, rfl, s17, hm8⟩
     · rintro fr10 w11 ⟨k, ol, so, Ho, vl, Hl, hk0, hol, goo, gvl, s0, s1, s2, s3, s6, s7, s8, s9, s10, s17, hm11⟩
       have z8 := s8
       have z9 := s9
       have z10 := s10
       have holn : ol.length = 32 * k := by rw [hol, Qe8]
       have htl := tK_le key info k
       refine Qh (sR ?_)
       refine rM rfl s8 <| Qb (v := (i64 (ol.length : Int))) rfl (Yi (goo.rd hm11) Z4 rfl) <| rM rfl s2 <| Qb rfl (Qs rfl rfl) <| rN ?_
       refine Xy rfl (fun hc12 => ?_) (fun hc12 => ?_)
       ·
         have hc12p := of_decide_eq_true hc12
         refine Zc (Qi (Qh (Qv (sR ?_))))
         refine Qb rfl (Xg (i := 0) (j := 32) Xo Yq s3 (Zn _ _) (Zn _ _) oM sD sD) <| rM rfl s9 <| rM rfl s1 <| rM rfl s10 <| Zo rfl (Xd u8 [BitVec.ofNat 8 (k + 1)] Q8 hm11 Z4 Yq rfl rfl rfl) ?_
         rintro _ w13 ⟨b31, rfl, _ew13, hm13⟩
         refine Zo rfl (Jj [vl, vi, (Jt b31 0 1 1)] (List.all_eq_true.1 (Q9 gvl.one (Q9 (Rd.one (Rd.ofRest hri hm13)) (Q9 rfl Zq)))) hm13 uT65 Aj rfl rfl rfl) ?_
         rintro _ w14 ⟨b32, rfl, _ew14, hm14⟩
         have hm14 : Mem w14 (Qo w0) ([(b32, .cells #[vl, vi, (Jt b31 0 1 1)] 27 (0, 0)), (b31, .cells (cl u8 ([BitVec.ofNat 8 (k + 1)])) 5 (0, 0))] ++ (Ho ++ (Hl ++ ([(b3, .cells (cl u8 key) 23 (0, 0))])))) := hm14
         refine Zo rfl (Qx Tryd.func59 bd59 nm59 (Yk rfl rfl) (Rx (sla b3 0 1 0 32 32) key (Jt b32 0 3 3) ([(vl, tK key info k), (vi, info), ((Jt b31 0 1 1), [BitVec.ofNat 8 (k + 1)])]) _ (hT.mono fun b o e => (hm14).rest b o e) (Rd.slaAll ((Mem.pick3 [_, _] Ho Hl [_] _ hm14)).h0 sD) sD (Rd.mkA (f := Prod.fst) (l := [(vl, tK key info k), (vi, info), ((Jt b31 0 1 1), [BitVec.ofNat 8 (k + 1)])]) hm14.h0) (Ur (gvl.rd (Mem.pick2 [_, _] Ho Hl _ hm14)) (Ur (Rd.ofRest hri hm14) (Ur (Rd.mkA hm14.h1) D9))) (by rw [Qbt]; simp only [List.length_append, List.length_cons, List.length_nil]; omega) sD)) ?_
         rintro _ w15 ⟨rfl, _ew15⟩
         have hm15 := hm14.ext _ew15
         refine Zo rfl (Zy hm15 Z5) ?_
         rintro _ w17 ⟨b11, rfl, _ew17, hm17⟩
         refine Xf (Zl (f := u8) (l := Ya key (Js ([(vl, tK key info k), (vi, info), ((Jt b31 0 1 1), [BitVec.ofNat 8 (k + 1)])]))) Q8 Z5 rfl rfl sD hm17.h0 sZ rfl) ?_
         rintro _ w18 uq18
         have hm18 := hm17.upd0 uq18
         refine rN ?_
         have hm19 := Mem.drop ([(b32, .cells #[vl, vi, (Jt b31 0 1 1)] 27 (0, 0))]) _ (Mem.pick [_] [_] _ hm18)
         have hm20 := Mem.drop ([(b31, .cells (cl u8 ([BitVec.ofNat 8 (k + 1)])) 5 (0, 0))]) _ (Mem.pick [_] [_] _ hm19)
         refine CW.abs (fun g => g 0 = (agg u8 key) ∧ g 1 = vi ∧ g 2 = (i64 n) ∧ g 3 = (ptr b3 0) ∧ g 6 = (Value.slice none 0 0) ∧ g 7 = (i64 0) ∧ g 8 = so ∧ g 9 = vl ∧ g 10 = (u8 (BitVec.ofNat 8 (k + 1))) ∧ g 11 = (ptr b11 0) ∧ g 17 = (bl (decide (8160 < n))) ∧ g 24 = (bl (decide ((ol.length : Int) < n))) ∧ True) ⟨s0, s1, s2, s3, s6, s7, s8, s9, s10, rfl, s17, rfl, trivial⟩ ?_
         rintro fr21 ⟨s0, s1, s2, s3, s6, s7, s8, s9, s10, s11, s17, s24, _⟩
         refine sR <| Qb rfl (Xg (i := 0) (j := 32) Xo Yq s11 (Zn _ _) (Zn _ _) oM sD sD) <| Qb rfl (Qd (v := (sla b11 0 1 0 32 32)) rfl) ?_
         refine rN (Qg ?_)
         refine rM rfl s8 <| Qb rfl (Qc (v := (sla b11 0 1 0 32 32)) rfl) <| Zo rfl (Xt (f := u8) (Hs := Ho) (H := [(b11, .cells (cl u8 (Ya key (Js ([(vl, tK key info k), (vi, info), ((Jt b31 0 1 1), [BitVec.ofNat 8 (k + 1)])])))) 23 (0, 0))] ++ (Hl ++ ([(b3, .cells (cl u8 key) 23 (0, 0))]))) (Mem.pick [_] Ho _ hm20) goo rfl rfl (Rd.slaAll hm20.h0 sD) Z4 Z4 Yq rfl Q8 sD sD) ?_
         rintro sv22 w22 ⟨Hs22, hm22, g22⟩
         replace g22 : Xx u8 5 sv22 (ol ++ (Ya key (Js ([(vl, tK key info k), (vi, info), ((Jt b31 0 1 1), [BitVec.ofNat 8 (k + 1)])])))) Hs22 := g22
         refine rA rfl (v := sv22) rfl ?_
         refine Zz (Qn (Qg ?_))
         refine rM rfl s10 <| Qb rfl (Qhv (b := 1#8) rfl rfl) <| Qb rfl (Qd (v := (u8 ((BitVec.ofNat 8 (k + 1)) + 1#8))) rfl) <| rN ?_
         have htn : Ya key (Js ([(vl, tK key info k), (vi, info), ((Jt b31 0 1 1), [BitVec.ofNat 8 (k + 1)])])) = tK key info (k + 1) := by rw [Qea, Qbt]
         have hm23 := Mem.drop Hl _ (Mem.pick2 Hs22 [_] Hl _ hm22)
         exact ⟨⟨k + 1, ol ++ (Ya key (Js ([(vl, tK key info k), (vi, info), ((Jt b31 0 1 1), [BitVec.ofNat 8 (k + 1)])]))), sv22, Hs22, (sla b11 0 1 0 32 32), [(b11, .cells (cl u8 (Ya key (Js ([(vl, tK key info k), (vi, info), ((Jt b31 0 1 1), [BitVec.ofNat 8 (k + 1)])])))) 23 (0, 0))], (.inr oM), (by rw [Qdp, ← htn, hol]), g22, (htn ▸ (by have e : sla b11 0 1 0 32 32 = Jt b11 0 32 32 := Qe3 (by decide); rw [e]; exact Xx.ofE u8 23 b11 _ (by rw [V3]))), s0, s1, s2, s3, s6, s7, rfl, rfl, (congrArg u8 (Qh7 k)), s17, hm23⟩, (by show n.toNat + 1 - sllen sv22 < n.toNat + 1 - sllen _; rw [z8, goo.sllen, Xx.sllen g22]; simp only [List.length_append, V3]; omega)⟩
       ·
         have hc12p := of_decide_eq_false hc12
         refine Yb ?_
         refine Zb (Zb (Xw ?_))
         refine Qh ?_
         have hbad : Qb6 n = false := by simp [Qb6]; omega
         have hkn : k = (n.toNat + 31) / 32 := by omega
         refine Qg <| rM rfl s8 <| rM rfl s2 <| rM rfl s2 <| Qb rfl (Qen (j := n) (goo.rd hm11) Z4 Yq rfl rfl rfl oM sD) <| Qb rfl (Qd (v := (Qbn so 0 n n)) rfl) <| Qb rfl (Qd (v := (i64 0)) rfl) ?_
         refine rN (Xn ?_)
         refine Zj [(Qbn so 0 n n), (i64 0)] ⟨rfl, rfl, trivial⟩ ?_
         have hm24 := Mem.drop Hl _ (Mem.pick Ho Hl _ hm11)
         have hm25 := Mem.drop ([(b3, .cells (cl u8 key) 23 (0, 0))]) _ (Mem.pick Ho [_] _ hm24)
         exact ⟨_, Ho, by unfold H9; rw [if_neg (by rw [hbad]; decide)]; rfl, by unfold En V7; rw [if_neg (by rw [hbad]; decide), ← hkn, ← hol]; exact (Xx.cut (j := n) goo oM sD), by simpa using hm25⟩
theorem Qh6 (va : Value) (la : List (BitVec 8)) (vb : Value) (lb : List (BitVec 8)) (w0 : World)  (hT : Tabs (Y3 w0)) (hra : Rd (Y3 w0) u8 va la) (hla : la.length ≤ 1048576) (hrb : Rd (Y3 w0) u8 vb lb) (hlb : lb.length ≤ 1048576) : X8 Tryd.prog 96 #[va, vb] w0 (fun r w1 => r = (agg u8 (Vp la lb)) ∧ Ext w0 w1) := by
 refine Zp (args := [va, vb]) Tryd.func96 rfl Tryd.ntmps96 Tryd.results96 rfl ?_
 have hm0 : Mem w0 (Qo w0) [] := Mem.of_world w0
 refine sR <| Zo rfl (Zy hm0 Z5) ?_
 rintro _ w1 ⟨b4, rfl, _ew1, hm1⟩
 refine rN (Qh (sR ?_))
 refine rM rfl (v := va) rfl <| Qb (v := (i64 (la.length : Int))) rfl (Yi (Rd.ofRest hra hm1) Z4 rfl) <| Qb rfl (W9 (b := 0) rfl rfl) <| rN ?_
 refine Xy rfl (fun hc2 => ?_) (fun hc2 => ?_)
 ·
   have hc2p := eq_of_beq hc2
   refine Qg <| Zo rfl (Fh hm1 Z4 Yq rfl rfl oM oM oM oM) ?_
   rintro _ w3 ⟨b8, rfl, _ew3, hm3⟩
   rw [Bl u8 0 rfl] at hm3
   have hm3 : Mem w3 (Qo w0) [(b8, .cells (cl u8 (List.replicate 32 (0 : BitVec 8))) 5 (0, 0)), (b4, .cells (cl u8 (List.replicate 32 0)) 23 (0, 0))] := hm3
   refine Qb rfl (Qd (v := (Jt b8 0 32 32)) rfl) ?_
   refine rN (sR ?_)
   refine Qb rfl (Qc (v := (Jt b8 0 32 32)) rfl) <| rM rfl (v := vb) rfl <| Zo rfl (Jj [vb] (List.all_eq_true.1 (Q9 (Rd.one (Rd.ofRest hrb hm3)) Zq)) hm3 uT65 Aj rfl rfl rfl) ?_
   rintro _ w4 ⟨b11, rfl, _ew4, hm4⟩
   have hm4 : Mem w4 (Qo w0) [(b11, .cells #[vb] 27 (0, 0)), (b8, .cells (cl u8 (List.replicate 32 (0 : BitVec 8))) 5 (0, 0)), (b4, .cells (cl u8 (List.replicate 32 0)) 23 (0, 0))] := hm4
   refine Zo rfl (Qx Tryd.func59 bd59 nm59 (Yk rfl rfl) (Rx (Jt b8 0 32 32) (List.replicate 32 (0 : BitVec 8)) (Jt b11 0 1 1) ([(vb, lb)]) _ (hT.mono fun b o e => (hm4).rest b o e) (Rd.mkE hm4.h1 sD) sD (Rd.mkA (f := Prod.fst) (l := [(vb, lb)]) hm4.h0) (Ur (Rd.ofRest hrb hm4) D9) (by rw [Dq]; omega) sD)) ?_
   rintro _ w5 ⟨rfl, _ew5⟩
   have hm5 := hm4.ext _ew5
   refine Xf (Zl (f := u8) (l := Ya (List.replicate 32 (0 : BitVec 8)) (Js ([(vb, lb)]))) Q8 Z5 rfl rfl sD hm5.h2 sZ rfl) ?_
   rintro _ w7 uq7
   have hm7 := hm5.upd2 uq7
   refine rN (Xn ?_)
   refine Zj [(agg u8 (Ya (List.replicate 32 (0 : BitVec 8)) (Js ([(vb, lb)]))))] ⟨⟨_, rfl, X6 Xo rfl Z5 hm7.h2 sZ⟩, trivial⟩ ?_
   exact ⟨congrArg (agg u8) (by unfold Vp saltP; rw [Dq, if_pos oM]), hm7.toExt⟩
 ·
   have hc2p := ne_of_beq_false hc2
   refine Zc (Qi (sR ?_))
   refine rM rfl (v := va) rfl <| rM rfl (v := vb) rfl <| Zo rfl (Jj [vb] (List.all_eq_true.1 (Q9 (Rd.one (Rd.ofRest hrb hm1)) Zq)) hm1 uT65 Aj rfl rfl rfl) ?_
   rintro _ w8 ⟨b11_1, rfl, _ew8, hm8⟩
   have hm8 : Mem w8 (Qo w0) [(b11_1, .cells #[vb] 27 (0, 0)), (b4, .cells (cl u8 (List.replicate 32 0)) 23 (0, 0))] := hm8
   refine Zo rfl (Qx Tryd.func59 bd59 nm59 (Yk rfl rfl) (Rx va la (Jt b11_1 0 1 1) ([(vb, lb)]) _ (hT.mono fun b o e => (hm8).rest b o e) (Rd.ofRest hra hm8) sD (Rd.mkA (f := Prod.fst) (l := [(vb, lb)]) hm8.h0) (Ur (Rd.ofRest hrb hm8) D9) (by rw [Dq]; omega) sD)) ?_
   rintro _ w9 ⟨rfl, _ew9⟩
   have hm9 := hm8.ext _ew9
   refine Xf (Zl (f := u8) (l := Ya la (Js ([(vb, lb)]))) Q8 Z5 rfl rfl sD hm9.h1 sZ rfl) ?_
   rintro _ w11 uq11
   have hm11 := hm9.upd1 uq11
   refine rN (Xn ?_)
   refine Zj [(agg u8 (Ya la (Js ([(vb, lb)]))))] ⟨⟨_, rfl, X6 Xo rfl Z5 hm11.h1 sZ⟩, trivial⟩ ?_
   exact ⟨congrArg (agg u8) (by unfold Vp saltP; rw [Dq, if_neg oM]), hm11.toExt⟩
end Go.Proofs.YtkmiemlpfkfiiaaDoor
