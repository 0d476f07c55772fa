/- The ratchet: the law of the mails that are left out. Conditions: none beyond those that each theorem states. -/
import Derived.Test.YtkmiemlpfkfiiaaDoorRc4
namespace Go.Proofs.YtkmiemlpfkfiiaaDoor
open Tryd
set_option linter.unusedVariables false
set_option linter.unusedSimpArgs false
def Nk (Hs : List (Nat × Obj)) (v : Value) (l : Zj) : Prop := ∀ m : Nat → Option Obj, (∀ p ∈ Hs, m p.1 = some p.2) → Rd m u8 v l
theorem Nk.nil (a : Option Addr) (c : Nat) : Nk [] (.slice a 0 c) [] := fun _ _ => Rd.nil _ _
theorem Nk.own {E : TypeId} {v : Value} {l : Zj} {Hs : List (Nat × Obj)} (h : Xl u8 E v l Hs) : Nk Hs v l := by
 intro m hm
 rcases h with ⟨⟨a, rfl⟩, rfl, rfl⟩ | ⟨b, pre, sp, post, rfl, rfl⟩
 ·exact Rd.nil _ _
 refine Rd.mk' oM (hm _ List.mem_cons_self) (fun i hi => ?_)
 rw [List.getElem?_toArray, List.getElem?_append_right oM, show pre.length + i - pre.length = i by omega, List.getElem?_append_left (by rw [List.length_map]; exact hi), List.getElem?_map, List.getElem?_eq_getElem hi]
 rfl
theorem Nk.app {Hf Hl : List (Nat × Obj)} {v : Value} {l : Zj} (h : Nk Hl v l) : Nk (Hf ++ Hl) v l := fun m hm => h m fun p hp => hm p (List.mem_append_right _ hp)
theorem Nk.cast {Hs : List (Nat × Obj)} {v : Value} {l l' : Zj} (h : Nk Hs v l) (e : l = l') : Nk Hs v l' := e ▸ h
theorem RdK.any {m : Nat → Option Obj} {v : Value} {l l' : List Kp} (h : RdK m Yz 65 v l) (e : l = []) (e' : l' = []) (m' : Nat → Option Obj) : RdK m' Yz 65 v l' := by
 subst e e'
 obtain ⟨_, a, c, rfl, _⟩ := h
 exact RdK.nil _ _
def Ny (F : Sn) (i : Nat) : Zj := if i = 0 then [] else Eg F [] [0#8]
def Vx (F : Sn) : Nat → Zj
 | 0 => []
 | i + 1 => Eg (J3 F i) [] [BitVec.ofInt 8 (i : Int)]
theorem Qip {F : Sn} {i : Nat} (h : ((i : Int) == 0) = true) : Eg (J3 F i) [] [BitVec.ofInt 8 (i : Int)] = Ny F (i + 1) ∧ Eg (J3 F i) [] [BitVec.ofInt 8 (i : Int)] = Vx F (i + 1) := by
 have : i = 0 := by have := beq_iff_eq.1 h; omega
 subst this; exact ⟨rfl, rfl⟩
theorem farF_1 {F : Sn} {i : Nat} (h : ((i : Int) == 0) = false) : Ny F i = Ny F (i + 1) := by
 have : i ≠ 0 := by intro e; subst e; cases h
 unfold Ny; rw [if_neg this, if_neg oM]
theorem Qix (F : Sn) (i : Nat) (p : Zj) : (Eg (J3 F i) [] p).length ≤ p.length + 72 := Qmx
theorem Qms (F : Sn) : ∀ i, (Vx F i).length ≤ 73
 | 0 => Nat.zero_le _
 | i + 1 => Qix F i [BitVec.ofInt 8 (i : Int)]
theorem Qmt (F : Sn) (i : Nat) : (Ny F i).length ≤ 73 := by
 unfold Ny; split
 ·exact Nat.zero_le _
 exact Qmx (S := F) (b := []) (p := [0#8])
theorem Qiy (F : Sn) : J3 F 0 = F := rfl
theorem Qah (F : Sn) (i : Nat) : J3 F (i + 1) = Qbb (J3 F i) := rfl
theorem far_0 (F : Sn) : Ny F 0 = [] ∧ Vx F 0 = [] := ⟨rfl, rfl⟩
theorem Qio (F : Sn) (i : Nat) : Vx F (i + 1) = Eg (J3 F i) [] [BitVec.ofInt 8 (i : Int)] := rfl
theorem farF_S (F : Sn) (i : Nat) : Ny F (i + 1) = Eg F [] [0#8] := rfl
theorem Nk.nilE {l : Zj} (a : Option Addr) (c : Nat) (e : l = []) : Nk [] (.slice a 0 c) l := e ▸ Nk.nil a c
theorem Qmw (ro ow ot : Zj) (i : Nat) (h : i < 2147483647) : (J3 (Ze ro ow ot) i).n1 = i ∧ (J3 (Ze ro ow ot) i).n3 = 0 ∧ (J3 (Ze ro ow ot) i).ks = [] ∧ Ua (J3 (Ze ro ow ot) i) = 0 := by
 obtain ⟨_, _, c, d, e, g⟩ := Qmv (Ze ro ow ot) rfl rfl i h
 exact ⟨d, c, e, g⟩
theorem Nk.rd {Hs H : List (Nat × Obj)} {v : Value} {l : Zj} {w : World} {R : Rest} (h : Nk Hs v l) (hm : Mem w R (Hs ++ H)) : Rd (Yn w) u8 v l := h _ fun p hp => hm.own p (List.mem_append_left _ hp)
theorem Nk.rd2 {Hf Hl H H' : List (Nat × Obj)} {v : Value} {l : Zj} {w : World} {R : Rest} (h : Nk (Hf ++ Hl) v l) (hm : Mem w R (Hf ++ H)) (hm' : Mem w R (Hl ++ H')) : Rd (Yn w) u8 v l :=
 h _ fun p hp => (List.mem_append.1 hp).elim (fun hp => hm.own p (List.mem_append_left _ hp)) (fun hp => hm'.own p (List.mem_append_left _ hp))
attribute [local irreducible] Ak Va D7 Ya Yq Gy J9 Jz Ja Zu Wi Ko Qi Q7 Gf D5 Kt hdR hdE Wv Qba Rz Dz Pi Ns Jl
attribute [local irreducible] Ua Gz Ls F5 Qem Eg Qbb encK Ze Zq
attribute [local irreducible] J3 Ny Vx Ag Xw Zp
set_option maxHeartbeats 2000000 in
theorem law_rfar (ro ow ot f : Zj) (over : Bool) (w0 : World)  (hT : Tabs (Yn w0)) (hro : ro.length = 32) (how : ow.length = 32) (hot : ot.length = 32) (hf : f.length = 32) : Xm prog 6 #[(agg u8 ro), (agg u8 ow), (agg u8 ot), (agg u8 f), (bl over)] w0 (fun r w1 => r = bl true ∧ RowKit.Below w0.heap.size w0 w1) := by
 refine Qy (args := [(agg u8 ro), (agg u8 ow), (agg u8 ot), (agg u8 f), (bl over)]) func6 rfl ntmps6 results6 rfl ?_
 have m0 : Mem w0 (Qu w0) [] := Mem.of_world w0
 have hmo := Jy ot Q7
 refine sR <| Y5 (Zw (f := u8) (l := ro) m0 rfl) fun w1 b5 m1 => Y5 (Zw (f := u8) (l := ow) m1 rfl) fun w2 b6 m2 => Y5 (Zw (f := u8) (l := ot) m2 rfl) fun w3 b7 m3 => Y5 (Zw (f := u8) (l := f) m3 rfl) fun w4 b8 m4 => Zv (bl false) ?_
 refine rN (Qc (sR ?_))
 refine Dx m4 (oc9 (args0) (Qlx _ (hT.mono fun b o e => (m4).rest b o e))) fun w5 m5 => Qd (v := (bl false)) (Qac (b := true) rfl) <| rN <| Ym rfl Yh ?_
 refine Qo (Qa (sR ?_))
 refine Qd (Qw Xf rfl Zi rfl m5.h1 N8) <| Dx m5 (oc27 (Jb rfl) (Ql0 _ _ sL)) fun w7 m7 => Y5 (Yu m7 Qec) fun w9 b11 m9 => Ve (Wl [ot.map u8, (Qi ot Q7).map u8] Qec rfl rfl (Gn (n := 32) (m := 32) (k := 64) (by first | rfl | (rw [List.length_map]; first | omega | (simp; done) | (simp; omega))) (Gn (n := 32) (m := 0) (k := 32) (by first | rfl | (rw [List.length_map]; first | omega | (simp; done) | (simp; omega))) Tz rfl) rfl) (Xt (Yj Q9 _) (Xt (Yj Q9 _) Ui)) m9.h0 rfl rfl) ?_
 rintro _ w10 uq10
 have m10 : Mem _ _ [(b11, .cells (Qp [ot.map u8, (Qi ot Q7).map u8]) 39 (0, 0)), _, _, _, _] := m9.upd0 uq10
 refine rN (Qc ?_)
 refine Ju Xh ?_
 refine Qg3 [9, 10] (dl 9) 11 (luN [(9, 12), (10, 13)]) (luN [(9, 26), (10, 26)]) (luV [(9, (Value.agg (Qp (sE (List.replicate 32 0) (List.replicate 32 0) (List.replicate 32 0) false false (List.replicate 32 0) (List.replicate 32 0) 0 0 0 Jp)))), (10, (Value.agg (Qp (sE (List.replicate 32 0) (List.replicate 32 0) (List.replicate 32 0) false false (List.replicate 32 0) (List.replicate 32 0) 0 0 0 Jp))))]) (fun g => g 0 = (agg u8 ro) ∧ g 1 = (agg u8 ow) ∧ g 2 = (agg u8 ot) ∧ g 3 = (agg u8 f) ∧ g 4 = (bl over) ∧ g 5 = (ptr b5 0) ∧ g 6 = (ptr b6 0) ∧ g 7 = (ptr b7 0) ∧ g 8 = (ptr b8 0) ∧ g 10 = (bl false) ∧ g 11 = (ptr b11 0) ∧ g 26 = (bl false) ∧ g 34 = (Value.agg (Qp (sS (Ze ro ow (Qi ot Q7)) Jp))) ∧ g 37 = (Value.agg (Qp (sS (Zq ro ot) Jp))) ∧ True) m10 (U3 ⟨⟨_, _, _, rfl⟩, rfl, _, _, Jo⟩ (U3 ⟨⟨_, _, _, rfl⟩, rfl, _, _, Jo⟩ Qbv)) (fun sx11 hS11 => ?_) ?_
 ·skip
  refine Y6 rfl (fun _ e' => Qw Xf rfl Zi rfl (m10.ext e').h4 N8) <| Y6 rfl (fun _ e' => Qw Xf rfl Zi rfl (m10.ext e').h3 N8) <| U4 (v := (Value.agg (Qp [ow.map u8, (Qi ow Q7).map u8]))) rfl rfl (fun w12 e12 => oc27 (Jb rfl) (Ql0 _ _ sL)) <| Xq rfl (Zd (r := 32) Qe5 rfl Yy Zi rfl rfl) <| Y6 rfl (fun _ e' => Y8 1 Xf Zi rfl (m10.ext e').h0 rfl) <| U4 (v := (Value.agg (Qp (sS (Ze ro ow (Qi ot Q7)) Jp)))) rfl rfl (fun w15 e15 => oc16 (U2 rfl rfl rfl) (Qkx _ _ _ _ _ (hT.mono fun b o e => ((m10.ext e15)).rest b o e) sL sL sL sL)) <| Y6 rfl (fun _ e' => Qw Xf rfl Zi rfl (m10.ext e').h4 N8) <| Y6 rfl (fun _ e' => Jt Qe5 Qec rfl (m10.ext e').h0) <| U4 (v := (Value.agg (Qp (sS (Zq ro ot) Jp)))) rfl rfl (fun w18 e18 => oc18 (X3 rfl rfl) (Qho _ _ _ _ sL sL sL)) ?_
  exact hS11 _ ⟨rfl, rfl, rfl, rfl, rfl, rfl, rfl, rfl, rfl, rfl, rfl, rfl, rfl, rfl, trivial⟩
 rintro g21 ⟨s0, s1, s2, s3, s4, s5, s6, s7, s8, s10, s11, s26, s34, s37, _⟩ w23 ps23 hmm23
 have m23 : Mem _ _ [((ps23 9), .cells (Qp (sE (List.replicate 32 0) (List.replicate 32 0) (List.replicate 32 0) false false (List.replicate 32 0) (List.replicate 32 0) 0 0 0 Jp)) 26 (0, 0)), ((ps23 10), .cells (Qp (sE (List.replicate 32 0) (List.replicate 32 0) (List.replicate 32 0) false false (List.replicate 32 0) (List.replicate 32 0) 0 0 0 Jp)) 26 (0, 0)), _, _, _, _, _] := hmm23
 show RW _ _ _ _ _ (upd (upd g21 13 (ptr (ps23 10) 0)) 12 (ptr (ps23 9) 0)) _
 generalize ps23 9 = b12, ps23 10 = b13 at m23 ⊢
 refine Yb m23 (Jw Jo rfl s34 m23.h0 (Us rfl)) fun w24 m24 => Vq m24 (Jw Jo rfl s37 m24.h1 (Us rfl)) fun w25 m25 => ?_
 refine rN (sR ?_)
 refine Zv (i64 1000) ?_
 refine rN (Qc (sR ?_))
 refine Yk s4 <| rN ?_
 refine Xb rfl (fun hc26 => ?_) (fun hc26 => ?_)
 ·
  refine Qb <| Zb (i64 1000) <| Qd (v := (i64 1001)) (Xd 1000 1) <| Zv (i64 1001) ?_
  refine rN (sR ?_)
  refine Y5 (Zr u8 [] Q9 m25 Zx Yw rfl (by simp [Tm]) rfl) fun w27 b41 m27 => Y5 (Zr u8 [] Q9 m27 Zx Yw rfl (by simp [Tm]) rfl) fun w28 b42 m28 => Zv (Kq b41 0 0 0) <| Zv (Kq b42 0 0 0) ?_
  refine rN (Qc (sR ?_))
  refine Zv (i64 0) ?_
  refine rN (Qj ?_)
  refine Jq (fun g wv => ∃ (i : Nat) (vf vl vk : Value) (Hf Hl : List (Nat × Obj)), (i ≤ 1002) ∧ (∀ m, RdK m Yz 65 vk (J3 (Ze ro ow (Qi ot Q7)) i).ks) ∧ (Nk Hf vf (Ny (Ze ro ow (Qi ot Q7)) i)) ∧ (Nk (Hf ++ Hl) vl (Vx (Ze ro ow (Qi ot Q7)) i)) ∧ g 0 = (agg u8 ro) ∧ g 1 = (agg u8 ow) ∧ g 2 = (agg u8 ot) ∧ g 3 = (agg u8 f) ∧ g 4 = (bl over) ∧ g 5 = (ptr b5 0) ∧ g 6 = (ptr b6 0) ∧ g 7 = (ptr b7 0) ∧ g 8 = (ptr b8 0) ∧ g 11 = (ptr b11 0) ∧ g 12 = (ptr b12 0) ∧ g 13 = (ptr b13 0) ∧ g 14 = (i64 1001) ∧ g 15 = vf ∧ g 16 = vl ∧ g 17 = (i64 (i : Int)) ∧ g 26 = (bl false) ∧ g 38 = (bl over) ∧ Mem wv (Qu w0) ([(b12, .cells (Qp (sS (J3 (Ze ro ow (Qi ot Q7)) i) vk)) 26 (0, 0))] ++ (Hf ++ (Hl ++ ([(b13, .cells (Qp (sS (Zq ro ot) Jp)) 26 (0, 0)), (b8, .cells (cl u8 f) 23 (0, 0))]))))) (fun g wv => ((1002 : Int) - RowKit.intOf (g 17)).toNat) ?_ ?_
  have m29 := Mem.drop [_] _ m28
  have m30 := Mem.drop [_] _ m29
  have m31 := Mem.drop [_] _ (Mem.pick [_, _] [_] _ m30)
  have m32 := Mem.drop [_] _ (Mem.pick [_, _, _] [_] _ m31)
  have m33 := Mem.drop [_] _ (Mem.pick [_, _, _] [_] _ m32)
  have m34 := Mem.drop [_] _ (Mem.pick [_, _, _] [_] _ m33)
  ·exact ⟨0, (Kq b41 0 0 0), (Kq b42 0 0 0), Jp, [], [], oM, (fun m => RdK.nilE (by rw [Qiy]; exact Qkk _ _ _)), (Nk.nilE _ _ (far_0 _).1), (Nk.nilE _ _ (far_0 _).2), s0, s1, s2, s3, s4, s5, s6, s7, s8, s11, rfl, rfl, rfl, rfl, rfl, rfl, s26, rfl, (by rw [Qiy]; exact m34)⟩
  rintro fr35 w36 ⟨i, vf, vl, vk, Hf, Hl, hi, hkv, hrf, hrl, s0, s1, s2, s3, s4, s5, s6, s7, s8, s11, s12, s13, s14, s15, s16, s17, s26, s38, m36⟩
  have z15 := s15
  have z16 := s16
  have z17 := s17
  obtain ⟨ei4, ei8, ei5, ei6⟩ := Qmw ro ow (Qi ot Q7) i oM
  have ei7 : (J3 (Ze ro ow (Qi ot Q7)) i).ks.length = 0 := by rw [ei5]; rfl
  have ei9 := Qix (Ze ro ow (Qi ot Q7)) i [BitVec.ofInt 8 (i : Int)]
  refine Qc (sR ?_)
  refine Yk s17 <| Yk s14 <| Qd (Qf1 (b := 1001) rfl rfl) <| rN ?_
  refine Xb rfl (fun hc37 => ?_) (fun hc37 => ?_)
  ·
   have hc37p := of_decide_eq_true hc37
   refine Qo (Qa (Qc (Qj (sR ?_))))
   refine Qd (Jt X6 Jo s12 m36.h0) <| Yk s17 <| Qd (V8 ⟨_, Di⟩ Uu rfl) <| Y5 (Zr u8 [BitVec.ofInt 8 (i : Int)] Q9 m36 Zx Yw rfl rfl rfl) fun w38 b52 m38 => G5 (oc12 (U2 rfl rfl rfl) (Qi8 (J3 (Ze ro ow (Qi ot Q7)) i) vk Jp ([]) (Kq b52 0 1 1) ([BitVec.ofInt 8 (i : Int)]) _ (hT.mono fun b o e => (m38).rest b o e) (hkv _) sL (Rd.nil _ _) sL (Rd.mkA m38.h0) sL sL sL)) ?_
   rintro _ w39 ⟨vqq40, Hqq40, vcq40, Hcq40, rfl, gqq40, gcq40, k_w39⟩
   have m39 : Mem w39 (Qu w0) (Hqq40 ++ (Hcq40 ++ ([(b52, .cells (cl u8 ([BitVec.ofInt 8 (i : Int)])) 5 (0, 0)), (b12, .cells (Qp (sS (J3 (Ze ro ow (Qi ot Q7)) i) vk)) 26 (0, 0))] ++ (Hf ++ (Hl ++ ([(b13, .cells (Qp (sS (Zq ro ot) Jp)) 26 (0, 0)), (b8, .cells (cl u8 f) 23 (0, 0))])))))) := ymA (Mem.new (H := [(b52, .cells (cl u8 ([BitVec.ofInt 8 (i : Int)])) 5 (0, 0)), (b12, .cells (Qp (sS (J3 (Ze ro ow (Qi ot Q7)) i) vk)) 26 (0, 0))] ++ (Hf ++ (Hl ++ ([(b13, .cells (Qp (sS (Zq ro ot) Jp)) 26 (0, 0)), (b8, .cells (cl u8 f) 23 (0, 0))])))) (H' := _) m38 k_w39)
   refine Yk rfl <| Qd (v := (Value.agg (Qp (sS (Qbb (J3 (Ze ro ow (Qi ot Q7)) i)) (if Ua (J3 (Ze ro ow (Qi ot Q7)) i) = 0 then vqq40 else vk))))) (Zg rfl rfl) <| Qd (v := vcq40) (Zg rfl rfl) <| Qd (v := (i64 (Ua (J3 (Ze ro ow (Qi ot Q7)) i)))) (Zg rfl rfl) <| Y5 (Yu m39 Jo) fun w41 b18 m41 => Yb m41 (Jw Jo rfl rfl m41.h0 (Us (RdK.one (RdK.ite (fun h => RdK.cast (gqq40.rd (Mem.pick [_] Hqq40 _ m41)) (Ar h)) (fun h => RdK.cast (hkv _) (Au h)))))) fun w42 m42 => Zv vcq40 <| Zv (i64 (Ua (J3 (Ze ro ow (Qi ot Q7)) i))) <| rN ?_
   have m43 := Mem.drop [_] _ (Mem.pick3 [_] Hqq40 Hcq40 [_] _ m42)
   refine Qc (sR ?_)
   refine Zb (i64 (Ua (J3 (Ze ro ow (Qi ot Q7)) i))) <| Qd (Je (b := 0) rfl rfl) <| rN ?_
   have hd44 : ((Ua (J3 (Ze ro ow (Qi ot Q7)) i)) != 0) = false := by rw [ei6]; rfl
   refine Ym rfl hd44 ?_
   refine Qo (Qa (Qc (sR ?_)))
   refine Yk s17 <| Qd (J5 (b := 0) rfl rfl) <| rN ?_
   refine Xb rfl (fun hc45 => ?_) (fun hc45 => ?_)
   ·
    have hc45p := eq_of_beq hc45
    refine Qb <| Zb vcq40 <| Zv vcq40 ?_
    refine rN (Qb ?_)
    refine Qd (Jt X6 Jo rfl m43.h0) <| Zb vcq40 <| Ve (Jw Jo s12 rfl ((Mem.pick3 [_] Hqq40 Hcq40 [_] _ m43)).h0 (Us (RdK.one (RdK.ite (fun h => RdK.cast (gqq40.rd (Mem.pick [_] Hqq40 _ m43)) (Ar h)) (fun h => RdK.cast (hkv _) (Au h)))))) ?_
    rintro _ w46 uq46
    have m46 : Mem _ _ ([_, _] ++ (Hqq40 ++ (Hcq40 ++ (Hf ++ (Hl ++ ([_, _])))))) := Mem.upd0 (Mem.pick3 [_] Hqq40 Hcq40 [_] _ m43) uq46
    refine Zv vcq40 ?_
    refine Zo (Qh ?_)
    have m47 := Mem.drop Hf _ (Mem.pick3 [_, _] Hqq40 Hcq40 Hf _ m46)
    have m48 := Mem.drop Hl _ (Mem.pick3 [_, _] Hqq40 Hcq40 Hl _ m47)
    refine Qb <| Yk s17 <| Qd (Z9 (b := 1) rfl rfl oM oM) <| Zv (i64 ((i : Int) + 1)) <| rN ?_
    have m49 := Mem.drop [_] _ (Mem.pick [_] [_] _ m48)
    have m50 := Mem.drop Hqq40 _ (Mem.pick [_] Hqq40 _ m49)
    exact ⟨⟨(i + 1), vcq40, vcq40, (if Ua (J3 (Ze ro ow (Qi ot Q7)) i) = 0 then vqq40 else vk), Hcq40, [], oM, (RdK.any (RdK.ite (fun h => RdK.cast (gqq40.rd (Mem.pick [_, _] Hqq40 _ m48)) (Ar h)) (fun h => RdK.cast (hkv _) (Au h))) (by rw [Bq]; exact ei5) (by rw [Qah, Bq]; exact ei5)), (Nk.cast (Nk.own gcq40) (Qip hc45).1), (by rw [List.append_nil]; exact Nk.cast (Nk.own gcq40) (Qip hc45).2), s0, s1, s2, s3, s4, s5, s6, s7, s8, s11, s12, s13, s14, rfl, rfl, rfl, s26, s38, (by rw [Qah]; exact m50)⟩, Am rfl z17 oM oM⟩
   ·
    have hc45p := ne_of_beq_false hc45
    refine Qo (Qa (Qb ?_))
    refine Qd (Jt X6 Jo rfl m43.h0) <| Zb vcq40 <| Ve (Jw Jo s12 rfl ((Mem.pick3 [_] Hqq40 Hcq40 [_] _ m43)).h0 (Us (RdK.one (RdK.ite (fun h => RdK.cast (gqq40.rd (Mem.pick [_] Hqq40 _ m43)) (Ar h)) (fun h => RdK.cast (hkv _) (Au h)))))) ?_
    rintro _ w51 uq51
    have m51 : Mem _ _ ([_, _] ++ (Hqq40 ++ (Hcq40 ++ (Hf ++ (Hl ++ ([_, _])))))) := Mem.upd0 (Mem.pick3 [_] Hqq40 Hcq40 [_] _ m43) uq51
    refine Zv vcq40 ?_
    refine Zo (Qh ?_)
    have m52 := Mem.drop Hl _ (Mem.pick4 [_, _] Hqq40 Hcq40 Hf Hl _ m51)
    refine Qb <| Yk s17 <| Qd (Z9 (b := 1) rfl rfl oM oM) <| Zv (i64 ((i : Int) + 1)) <| rN ?_
    have m53 := Mem.drop [_] _ (Mem.pick [_] [_] _ m52)
    have m54 := Mem.drop Hqq40 _ (Mem.pick [_] Hqq40 _ m53)
    have m55 := (Mem.pick4 [_] Hcq40 Hf [_] [_] _ m54)
    have m56 := (Mem.pick3 [_, _] Hcq40 Hf [_] _ m55)
    have m57 := (Mem.pick [_, _, _] Hcq40 _ m56)
    have m58 := (Mem.pick2 Hcq40 [_, _, _] Hf _ m57)
    have m59 := (Mem.pick3 Hf Hcq40 [_, _] [_] _ m58)
    exact ⟨⟨(i + 1), vf, vcq40, (if Ua (J3 (Ze ro ow (Qi ot Q7)) i) = 0 then vqq40 else vk), Hf, Hcq40, oM, (RdK.any (RdK.ite (fun h => RdK.cast (gqq40.rd (Mem.pick [_, _] Hqq40 _ m52)) (Ar h)) (fun h => RdK.cast (hkv _) (Au h))) (by rw [Bq]; exact ei5) (by rw [Qah, Bq]; exact ei5)), (Nk.cast hrf (farF_1 hc45)), (Nk.cast (Nk.app (Nk.own gcq40)) (Qio _ _).symm), s0, s1, s2, s3, s4, s5, s6, s7, s8, s11, s12, s13, s14, s15, rfl, rfl, s26, s38, (by rw [Qah]; exact m59)⟩, Am rfl z17 oM oM⟩
  ·
   have hc37p := of_decide_eq_false hc37
   have hie : i = 1002 := by omega
   have hlw := Qms (Ze ro ow (Qi ot Q7)) i
   have hfw := Qmt (Ze ro ow (Qi ot Q7)) i
   have hL : Vx (Ze ro ow (Qi ot Q7)) i = Eg (J3 (Ze ro ow (Qi ot Q7)) 1001) [] [BitVec.ofInt 8 (1001 : Int)] := by rw [hie]; exact Qio _ 1001
   have ho1 : Gz (Zq ro ot) [] (Vx (Ze ro ow (Qi ot Q7)) i) f = 12 := by rw [hL]; exact trip_far hro how hot f [] _ Yh Yh
   obtain ⟨ho2, ho3, ho4⟩ := Qiz (by rw [ho1]; decide)
   have ho5 : (F5 (Zq ro ot) [] (Vx (Ze ro ow (Qi ot Q7)) i) f).ks.length = 0 := by rw [ho2, Qni]; rfl
   refine Yc ?_
   refine Qr (Qr (Xp ?_))
   refine sR <| Qd (Jt X6 Jo s13 ((Mem.pick3 [_] Hf Hl [_] _ m36)).h0) <| Yk s16 <| Qd (Qw Xf rfl Zi s8 ((Mem.pick4 [_] Hf Hl [_] [_] _ m36)).h0 N8) <| G5 (oc25 (Qao rfl rfl rfl rfl) (Qi9 (Zq ro ot) Jp Jp ([]) vl (Vx (Ze ro ow (Qi ot Q7)) i) _ _ (hT.mono fun b o e => (m36).rest b o e) (RdK.nilE Xk) (Rd.nil _ _) sL (Nk.rd2 hrl (Mem.pick [_] Hf _ m36) (Mem.pick2 [_] Hf Hl _ m36)) sL sL sL sL)) ?_
   rintro _ w60 ⟨vqq61, Hqq61, vpq61, Hpq61, rfl, gqq61, gpq61, k_w60⟩
   have m60 : Mem w60 (Qu w0) (Hqq61 ++ (Hpq61 ++ ([(b12, .cells (Qp (sS (J3 (Ze ro ow (Qi ot Q7)) i) vk)) 26 (0, 0))] ++ (Hf ++ (Hl ++ ([(b13, .cells (Qp (sS (Zq ro ot) Jp)) 26 (0, 0)), (b8, .cells (cl u8 f) 23 (0, 0))])))))) := ymA (Mem.new (H := [(b12, .cells (Qp (sS (J3 (Ze ro ow (Qi ot Q7)) i) vk)) 26 (0, 0))] ++ (Hf ++ (Hl ++ ([(b13, .cells (Qp (sS (Zq ro ot) Jp)) 26 (0, 0)), (b8, .cells (cl u8 f) 23 (0, 0))])))) (H' := _) m36 k_w60)
   refine Yk rfl <| Qd (v := (Value.agg (Qp (sS (F5 (Zq ro ot) ([]) (Vx (Ze ro ow (Qi ot Q7)) i) f) (if Gz (Zq ro ot) ([]) (Vx (Ze ro ow (Qi ot Q7)) i) f = 0 then vqq61 else Jp))))) (Zg rfl rfl) <| Qd (v := vpq61) (Zg rfl rfl) <| Qd (v := (i64 (Gz (Zq ro ot) ([]) (Vx (Ze ro ow (Qi ot Q7)) i) f))) (Zg rfl rfl) <| Y5 (Yu m60 Jo) fun w62 b21 m62 => Yb m62 (Jw Jo rfl rfl m62.h0 (Us (RdK.one (RdK.ite (fun h => RdK.cast (gqq61.rd (Mem.pick [_] Hqq61 _ m62)) (Rn h)) (fun h => RdK.cast (RdK.nilE Xk) (Ro h)))))) fun w63 m63 => Zv vpq61 <| Zv (i64 (Gz (Zq ro ot) ([]) (Vx (Ze ro ow (Qi ot Q7)) i) f)) ?_
   refine rN (Qc (sR ?_))
   refine Yk s4 <| rN <| Qx rfl hc26 <| sR <| Zb (i64 (Gz (Zq ro ot) ([]) (Vx (Ze ro ow (Qi ot Q7)) i) f)) <| Qd (J5 (b := 12) rfl rfl) <| Yk rfl ?_
   have hd64 : ((Gz (Zq ro ot) ([]) (Vx (Ze ro ow (Qi ot Q7)) i) f) == 12) = true := by rw [ho1]; rfl
   refine Zt (s := 75) rfl rfl hd64 rfl (Jt X6 Jo rfl m63.h0) <| Zt (s := 75) rfl rfl hd64 rfl (Jt X6 Jo s13 ((Mem.pick6 [_] Hqq61 Hpq61 [_] Hf Hl [_] _ m63)).h0) <| rw_gy (s := 75) rfl rfl hd64 rfl (oc14 (X3 rfl rfl) (c_sameSS (F5 (Zq ro ot) ([]) (Vx (Ze ro ow (Qi ot Q7)) i) f) (Zq ro ot) (if Gz (Zq ro ot) ([]) (Vx (Ze ro ow (Qi ot Q7)) i) f = 0 then vqq61 else Jp) Jp _ (RdK.ite (fun h => RdK.cast (gqq61.rd (Mem.pick [_] Hqq61 _ m63)) (Rn h)) (fun h => RdK.cast (RdK.nilE Xk) (Ro h))) (RdK.nilE Xk) sL ho2.symm)) ?_
   rintro _ w65 ⟨rfl, e65⟩
   have m65 := m63.ext e65
   refine Qd (V7 rfl hd64 rfl) <| Zb (bl true) <| Zt (s := 80) rfl rfl rfl rfl (Ye (v := vpq61) rfl) <| Zt (s := 80) rfl rfl rfl rfl (Yg (gpq61.rd (Mem.pick2 [_] Hqq61 Hpq61 _ m65)) Zx rfl) <| Zt (s := 80) rfl rfl rfl rfl (J5 (b := 0) rfl rfl) <| Qd (Qhi rfl rfl) <| Sv rfl ?_
   refine rN (Zy (Y7 ?_))
   refine Qs [(bl (((Ls (Zq ro ot) ([]) (Vx (Ze ro ow (Qi ot Q7)) i) f).length : Int) == 0))] ⟨rfl, trivial⟩ ?_
   have hd67 : (((Ls (Zq ro ot) ([]) (Vx (Ze ro ow (Qi ot Q7)) i) f).length : Int) == 0) = true := by rw [ho3]; rfl
   exact ⟨congrArg bl hd67, Mem.below w0 m65⟩
 ·
  refine Qo (Qa (sR ?_))
  refine Y5 (Zr u8 [] Q9 m25 Zx Yw rfl (by simp [Tm]) rfl) fun w68 b41_1 m68 => Y5 (Zr u8 [] Q9 m68 Zx Yw rfl (by simp [Tm]) rfl) fun w69 b42_1 m69 => Zv (Kq b41_1 0 0 0) <| Zv (Kq b42_1 0 0 0) ?_
  refine rN (Qc (sR ?_))
  refine Zv (i64 0) ?_
  refine rN (Qj ?_)
  refine Jq (fun g wv => ∃ (i : Nat) (vf vl vk : Value) (Hf Hl : List (Nat × Obj)), (i ≤ 1001) ∧ (∀ m, RdK m Yz 65 vk (J3 (Ze ro ow (Qi ot Q7)) i).ks) ∧ (Nk Hf vf (Ny (Ze ro ow (Qi ot Q7)) i)) ∧ (Nk (Hf ++ Hl) vl (Vx (Ze ro ow (Qi ot Q7)) i)) ∧ g 0 = (agg u8 ro) ∧ g 1 = (agg u8 ow) ∧ g 2 = (agg u8 ot) ∧ g 3 = (agg u8 f) ∧ g 4 = (bl over) ∧ g 5 = (ptr b5 0) ∧ g 6 = (ptr b6 0) ∧ g 7 = (ptr b7 0) ∧ g 8 = (ptr b8 0) ∧ g 11 = (ptr b11 0) ∧ g 12 = (ptr b12 0) ∧ g 13 = (ptr b13 0) ∧ g 14 = (i64 1000) ∧ g 15 = vf ∧ g 16 = vl ∧ g 17 = (i64 (i : Int)) ∧ g 26 = (bl false) ∧ g 38 = (bl over) ∧ Mem wv (Qu w0) ([(b12, .cells (Qp (sS (J3 (Ze ro ow (Qi ot Q7)) i) vk)) 26 (0, 0))] ++ (Hf ++ (Hl ++ ([(b13, .cells (Qp (sS (Zq ro ot) Jp)) 26 (0, 0)), (b8, .cells (cl u8 f) 23 (0, 0))]))))) (fun g wv => ((1001 : Int) - RowKit.intOf (g 17)).toNat) ?_ ?_
  have m70 := Mem.drop [_] _ m69
  have m71 := Mem.drop [_] _ m70
  have m72 := Mem.drop [_] _ (Mem.pick [_, _] [_] _ m71)
  have m73 := Mem.drop [_] _ (Mem.pick [_, _, _] [_] _ m72)
  have m74 := Mem.drop [_] _ (Mem.pick [_, _, _] [_] _ m73)
  have m75 := Mem.drop [_] _ (Mem.pick [_, _, _] [_] _ m74)
  ·exact ⟨0, (Kq b41_1 0 0 0), (Kq b42_1 0 0 0), Jp, [], [], oM, (fun m => RdK.nilE (by rw [Qiy]; exact Qkk _ _ _)), (Nk.nilE _ _ (far_0 _).1), (Nk.nilE _ _ (far_0 _).2), s0, s1, s2, s3, s4, s5, s6, s7, s8, s11, rfl, rfl, rfl, rfl, rfl, rfl, s26, rfl, (by rw [Qiy]; exact m75)⟩
  rintro fr76 w77 ⟨i, vf, vl, vk, Hf, Hl, hi, hkv, hrf, hrl, s0, s1, s2, s3, s4, s5, s6, s7, s8, s11, s12, s13, s14, s15, s16, s17, s26, s38, m77⟩
  have z15 := s15
  have z16 := s16
  have z17 := s17
  obtain ⟨ei4, ei8, ei5, ei6⟩ := Qmw ro ow (Qi ot Q7) i oM
  have ei7 : (J3 (Ze ro ow (Qi ot Q7)) i).ks.length = 0 := by rw [ei5]; rfl
  have ei9 := Qix (Ze ro ow (Qi ot Q7)) i [BitVec.ofInt 8 (i : Int)]
  refine Qc (sR ?_)
  refine Yk s17 <| Yk s14 <| Qd (Qf1 (b := 1000) rfl rfl) <| rN ?_
  refine Xb rfl (fun hc78 => ?_) (fun hc78 => ?_)
  ·
   have hc78p := of_decide_eq_true hc78
   refine Qo (Qa (Qc (Qj (sR ?_))))
   refine Qd (Jt X6 Jo s12 m77.h0) <| Yk s17 <| Qd (V8 ⟨_, Di⟩ Uu rfl) <| Y5 (Zr u8 [BitVec.ofInt 8 (i : Int)] Q9 m77 Zx Yw rfl rfl rfl) fun w79 b52_1 m79 => G5 (oc12 (U2 rfl rfl rfl) (Qi8 (J3 (Ze ro ow (Qi ot Q7)) i) vk Jp ([]) (Kq b52_1 0 1 1) ([BitVec.ofInt 8 (i : Int)]) _ (hT.mono fun b o e => (m79).rest b o e) (hkv _) sL (Rd.nil _ _) sL (Rd.mkA m79.h0) sL sL sL)) ?_
   rintro _ w80 ⟨vqq81, Hqq81, vcq81, Hcq81, rfl, gqq81, gcq81, k_w80⟩
   have m80 : Mem w80 (Qu w0) (Hqq81 ++ (Hcq81 ++ ([(b52_1, .cells (cl u8 ([BitVec.ofInt 8 (i : Int)])) 5 (0, 0)), (b12, .cells (Qp (sS (J3 (Ze ro ow (Qi ot Q7)) i) vk)) 26 (0, 0))] ++ (Hf ++ (Hl ++ ([(b13, .cells (Qp (sS (Zq ro ot) Jp)) 26 (0, 0)), (b8, .cells (cl u8 f) 23 (0, 0))])))))) := ymA (Mem.new (H := [(b52_1, .cells (cl u8 ([BitVec.ofInt 8 (i : Int)])) 5 (0, 0)), (b12, .cells (Qp (sS (J3 (Ze ro ow (Qi ot Q7)) i) vk)) 26 (0, 0))] ++ (Hf ++ (Hl ++ ([(b13, .cells (Qp (sS (Zq ro ot) Jp)) 26 (0, 0)), (b8, .cells (cl u8 f) 23 (0, 0))])))) (H' := _) m79 k_w80)
   refine Yk rfl <| Qd (v := (Value.agg (Qp (sS (Qbb (J3 (Ze ro ow (Qi ot Q7)) i)) (if Ua (J3 (Ze ro ow (Qi ot Q7)) i) = 0 then vqq81 else vk))))) (Zg rfl rfl) <| Qd (v := vcq81) (Zg rfl rfl) <| Qd (v := (i64 (Ua (J3 (Ze ro ow (Qi ot Q7)) i)))) (Zg rfl rfl) <| Y5 (Yu m80 Jo) fun w82 b18_1 m82 => Yb m82 (Jw Jo rfl rfl m82.h0 (Us (RdK.one (RdK.ite (fun h => RdK.cast (gqq81.rd (Mem.pick [_] Hqq81 _ m82)) (Ar h)) (fun h => RdK.cast (hkv _) (Au h)))))) fun w83 m83 => Zv vcq81 <| Zv (i64 (Ua (J3 (Ze ro ow (Qi ot Q7)) i))) <| rN ?_
   have m84 := Mem.drop [_] _ (Mem.pick3 [_] Hqq81 Hcq81 [_] _ m83)
   refine Qc (sR ?_)
   refine Zb (i64 (Ua (J3 (Ze ro ow (Qi ot Q7)) i))) <| Qd (Je (b := 0) rfl rfl) <| rN ?_
   have hd85 : ((Ua (J3 (Ze ro ow (Qi ot Q7)) i)) != 0) = false := by rw [ei6]; rfl
   refine Ym rfl hd85 ?_
   refine Qo (Qa (Qc (sR ?_)))
   refine Yk s17 <| Qd (J5 (b := 0) rfl rfl) <| rN ?_
   refine Xb rfl (fun hc86 => ?_) (fun hc86 => ?_)
   ·
    have hc86p := eq_of_beq hc86
    refine Qb <| Zb vcq81 <| Zv vcq81 ?_
    refine rN (Qb ?_)
    refine Qd (Jt X6 Jo rfl m84.h0) <| Zb vcq81 <| Ve (Jw Jo s12 rfl ((Mem.pick3 [_] Hqq81 Hcq81 [_] _ m84)).h0 (Us (RdK.one (RdK.ite (fun h => RdK.cast (gqq81.rd (Mem.pick [_] Hqq81 _ m84)) (Ar h)) (fun h => RdK.cast (hkv _) (Au h)))))) ?_
    rintro _ w87 uq87
    have m87 : Mem _ _ ([_, _] ++ (Hqq81 ++ (Hcq81 ++ (Hf ++ (Hl ++ ([_, _])))))) := Mem.upd0 (Mem.pick3 [_] Hqq81 Hcq81 [_] _ m84) uq87
    refine Zv vcq81 ?_
    refine Zo (Qh ?_)
    have m88 := Mem.drop Hf _ (Mem.pick3 [_, _] Hqq81 Hcq81 Hf _ m87)
    have m89 := Mem.drop Hl _ (Mem.pick3 [_, _] Hqq81 Hcq81 Hl _ m88)
    refine Qb <| Yk s17 <| Qd (Z9 (b := 1) rfl rfl oM oM) <| Zv (i64 ((i : Int) + 1)) <| rN ?_
    have m90 := Mem.drop [_] _ (Mem.pick [_] [_] _ m89)
    have m91 := Mem.drop Hqq81 _ (Mem.pick [_] Hqq81 _ m90)
    exact ⟨⟨(i + 1), vcq81, vcq81, (if Ua (J3 (Ze ro ow (Qi ot Q7)) i) = 0 then vqq81 else vk), Hcq81, [], oM, (RdK.any (RdK.ite (fun h => RdK.cast (gqq81.rd (Mem.pick [_, _] Hqq81 _ m89)) (Ar h)) (fun h => RdK.cast (hkv _) (Au h))) (by rw [Bq]; exact ei5) (by rw [Qah, Bq]; exact ei5)), (Nk.cast (Nk.own gcq81) (Qip hc86).1), (by rw [List.append_nil]; exact Nk.cast (Nk.own gcq81) (Qip hc86).2), s0, s1, s2, s3, s4, s5, s6, s7, s8, s11, s12, s13, s14, rfl, rfl, rfl, s26, s38, (by rw [Qah]; exact m91)⟩, Am rfl z17 oM oM⟩
   ·
    have hc86p := ne_of_beq_false hc86
    refine Qo (Qa (Qb ?_))
    refine Qd (Jt X6 Jo rfl m84.h0) <| Zb vcq81 <| Ve (Jw Jo s12 rfl ((Mem.pick3 [_] Hqq81 Hcq81 [_] _ m84)).h0 (Us (RdK.one (RdK.ite (fun h => RdK.cast (gqq81.rd (Mem.pick [_] Hqq81 _ m84)) (Ar h)) (fun h => RdK.cast (hkv _) (Au h)))))) ?_
    rintro _ w92 uq92
    have m92 : Mem _ _ ([_, _] ++ (Hqq81 ++ (Hcq81 ++ (Hf ++ (Hl ++ ([_, _])))))) := Mem.upd0 (Mem.pick3 [_] Hqq81 Hcq81 [_] _ m84) uq92
    refine Zv vcq81 ?_
    refine Zo (Qh ?_)
    have m93 := Mem.drop Hl _ (Mem.pick4 [_, _] Hqq81 Hcq81 Hf Hl _ m92)
    refine Qb <| Yk s17 <| Qd (Z9 (b := 1) rfl rfl oM oM) <| Zv (i64 ((i : Int) + 1)) <| rN ?_
    have m94 := Mem.drop [_] _ (Mem.pick [_] [_] _ m93)
    have m95 := Mem.drop Hqq81 _ (Mem.pick [_] Hqq81 _ m94)
    have m96 := (Mem.pick4 [_] Hcq81 Hf [_] [_] _ m95)
    have m97 := (Mem.pick3 [_, _] Hcq81 Hf [_] _ m96)
    have m98 := (Mem.pick [_, _, _] Hcq81 _ m97)
    have m99 := (Mem.pick2 Hcq81 [_, _, _] Hf _ m98)
    have m100 := (Mem.pick3 Hf Hcq81 [_, _] [_] _ m99)
    exact ⟨⟨(i + 1), vf, vcq81, (if Ua (J3 (Ze ro ow (Qi ot Q7)) i) = 0 then vqq81 else vk), Hf, Hcq81, oM, (RdK.any (RdK.ite (fun h => RdK.cast (gqq81.rd (Mem.pick [_, _] Hqq81 _ m93)) (Ar h)) (fun h => RdK.cast (hkv _) (Au h))) (by rw [Bq]; exact ei5) (by rw [Qah, Bq]; exact ei5)), (Nk.cast hrf (farF_1 hc86)), (Nk.cast (Nk.app (Nk.own gcq81)) (Qio _ _).symm), s0, s1, s2, s3, s4, s5, s6, s7, s8, s11, s12, s13, s14, s15, rfl, rfl, s26, s38, (by rw [Qah]; exact m100)⟩, Am rfl z17 oM oM⟩
  ·
   have hc78p := of_decide_eq_false hc78
   have hie : i = 1001 := by omega
   have hlw := Qms (Ze ro ow (Qi ot Q7)) i
   have hfw := Qmt (Ze ro ow (Qi ot Q7)) i
   have hL : Vx (Ze ro ow (Qi ot Q7)) i = Eg (J3 (Ze ro ow (Qi ot Q7)) 1000) [] [BitVec.ofInt 8 (1000 : Int)] := by rw [hie]; exact Qio _ 1000
   obtain ⟨t1, t2, t3⟩ := trip hro how hot f [] [BitVec.ofInt 8 (1000 : Int)] (Nat.le_refl 1000)
   rw [← hL] at t1 t2 t3
   have hF : Ny (Ze ro ow (Qi ot Q7)) i = Eg (Ze ro ow (Qi ot Q7)) [] [0#8] := by rw [hie]; exact farF_S _ 1000
   obtain ⟨k1, k2, k3, k4, k5⟩ := Qnf hro how hot f [] [0#8] f (Nat.le_refl 1000) Yh t3
   rw [← hF] at k3 k4 k5
   have t4 : (Ls (Zq ro ot) [] (Vx (Ze ro ow (Qi ot Q7)) i) f).length = 1 := by rw [t2]; rfl
   have k6 : (Ls (F5 (Zq ro ot) [] (Vx (Ze ro ow (Qi ot Q7)) i) f) [] (Ny (Ze ro ow (Qi ot Q7)) i) f).length = 1 := by rw [k4]; rfl
   refine Yc ?_
   refine Qr (Qr (Xp ?_))
   refine sR <| Qd (Jt X6 Jo s13 ((Mem.pick3 [_] Hf Hl [_] _ m77)).h0) <| Yk s16 <| Qd (Qw Xf rfl Zi s8 ((Mem.pick4 [_] Hf Hl [_] [_] _ m77)).h0 N8) <| G5 (oc25 (Qao rfl rfl rfl rfl) (Qi9 (Zq ro ot) Jp Jp ([]) vl (Vx (Ze ro ow (Qi ot Q7)) i) _ _ (hT.mono fun b o e => (m77).rest b o e) (RdK.nilE Xk) (Rd.nil _ _) sL (Nk.rd2 hrl (Mem.pick [_] Hf _ m77) (Mem.pick2 [_] Hf Hl _ m77)) sL sL sL sL)) ?_
   rintro _ w101 ⟨vqq102, Hqq102, vpq102, Hpq102, rfl, gqq102, gpq102, k_w101⟩
   have m101 : Mem w101 (Qu w0) (Hqq102 ++ (Hpq102 ++ ([(b12, .cells (Qp (sS (J3 (Ze ro ow (Qi ot Q7)) i) vk)) 26 (0, 0))] ++ (Hf ++ (Hl ++ ([(b13, .cells (Qp (sS (Zq ro ot) Jp)) 26 (0, 0)), (b8, .cells (cl u8 f) 23 (0, 0))])))))) := ymA (Mem.new (H := [(b12, .cells (Qp (sS (J3 (Ze ro ow (Qi ot Q7)) i) vk)) 26 (0, 0))] ++ (Hf ++ (Hl ++ ([(b13, .cells (Qp (sS (Zq ro ot) Jp)) 26 (0, 0)), (b8, .cells (cl u8 f) 23 (0, 0))])))) (H' := _) m77 k_w101)
   refine Yk rfl <| Qd (v := (Value.agg (Qp (sS (F5 (Zq ro ot) ([]) (Vx (Ze ro ow (Qi ot Q7)) i) f) (if Gz (Zq ro ot) ([]) (Vx (Ze ro ow (Qi ot Q7)) i) f = 0 then vqq102 else Jp))))) (Zg rfl rfl) <| Qd (v := vpq102) (Zg rfl rfl) <| Qd (v := (i64 (Gz (Zq ro ot) ([]) (Vx (Ze ro ow (Qi ot Q7)) i) f))) (Zg rfl rfl) <| Y5 (Yu m101 Jo) fun w103 b21_1 m103 => Yb m103 (Jw Jo rfl rfl m103.h0 (Us (RdK.one (RdK.ite (fun h => RdK.cast (gqq102.rd (Mem.pick [_] Hqq102 _ m103)) (Rn h)) (fun h => RdK.cast (RdK.nilE Xk) (Ro h)))))) fun w104 m104 => Zv vpq102 <| Zv (i64 (Gz (Zq ro ot) ([]) (Vx (Ze ro ow (Qi ot Q7)) i) f)) ?_
   refine rN (Qc (sR ?_))
   refine Yk s4 <| rN <| Ym rfl hc26 ?_
   refine Qo (Qa (Qc (sR ?_)))
   refine Zb (i64 (Gz (Zq ro ot) ([]) (Vx (Ze ro ow (Qi ot Q7)) i) f)) <| Qd (Je (b := 0) rfl rfl) <| Yk rfl ?_
   have hd105 : ((Gz (Zq ro ot) ([]) (Vx (Ze ro ow (Qi ot Q7)) i) f) != 0) = false := by rw [t1]; rfl
   refine Zt (s := 87) rfl rfl hd105 rfl (Ye (v := vpq102) rfl) <| Zt (s := 87) rfl rfl hd105 rfl (Yg (gpq102.rd (Mem.pick2 [_] Hqq102 Hpq102 _ m104)) Zx rfl) <| Zt (s := 87) rfl rfl hd105 rfl (Je (b := 1) rfl rfl) <| Qd (Js rfl hd105 rfl) <| Yk rfl ?_
   have hd106 : (((Ls (Zq ro ot) ([]) (Vx (Ze ro ow (Qi ot Q7)) i) f).length : Int) != 1) = false := by rw [t2]; rfl
   refine Zt (s := 92) rfl rfl hd106 rfl (Ye (v := vpq102) rfl) <| Zt (s := 92) rfl rfl hd106 rfl (Xr (i := 0) (gpq102.rd (Mem.pick2 [_] Hqq102 Hpq102 _ m104)) Zx Yw rfl rfl oM sL) <| Zt (s := 92) rfl rfl hd106 rfl (Y4 (l := (Ls (Zq ro ot) ([]) (Vx (Ze ro ow (Qi ot Q7)) i) f)) (i := 0) (dflt := 0) (gpq102.rd (Mem.pick2 [_] Hqq102 Hpq102 _ m104)) Uu rfl oM sL rfl) <| Zt (s := 92) rfl rfl hd106 rfl (Ye s14) <| Zt (s := 92) rfl rfl hd106 rfl (Vd (a := 1000) (b := 255) rfl rfl oM oM) <| Zt (s := 92) rfl rfl hd106 rfl (V8 ⟨_, Di⟩ Uu rfl) <| Zt (s := 92) rfl rfl hd106 rfl (Qn5 rfl rfl) <| Qd (Js rfl hd106 rfl) <| Yk rfl ?_
   have hd107 : (((Ls (Zq ro ot) ([]) (Vx (Ze ro ow (Qi ot Q7)) i) f).getD 0 0) != (BitVec.ofInt 8 232)) = false := by rw [t2]; rfl
   refine Zt (s := 101) rfl rfl hd107 rfl (Zd (r := 165) X6 rfl Yy Ah rfl rfl) <| Zt (s := 101) rfl rfl hd107 rfl (Yp 10 Gt rfl m104.h0 rfl) <| Zt (s := 101) rfl rfl hd107 rfl (Ux (RdK.ite (fun h => RdK.cast (gqq102.rd (Mem.pick [_] Hqq102 _ m104)) (Rn h)) (fun h => RdK.cast (RdK.nilE Xk) (Ro h))) Gt rfl) <| Zt (s := 101) rfl rfl hd107 rfl (Je (b := 1000) rfl rfl) <| Qd (Js rfl hd107 rfl) <| rN ?_
   have hd108 : ((((F5 (Zq ro ot) ([]) (Vx (Ze ro ow (Qi ot Q7)) i) f).ks).length : Int) != 1000) = false := by rw [k1]; rfl
   refine Ym rfl hd108 ?_
   refine Qo (Qa (sR ?_))
   refine Qd (Jt X6 Jo rfl m104.h0) <| Yk s15 <| Qd (Qw Xf rfl Zi s8 ((Mem.pick7 [_] Hqq102 Hpq102 [_] Hf Hl [_] [_] _ m104)).h0 N8) <| G5 (oc25 (Qao rfl rfl rfl rfl) (Qi9 (F5 (Zq ro ot) ([]) (Vx (Ze ro ow (Qi ot Q7)) i) f) (if Gz (Zq ro ot) ([]) (Vx (Ze ro ow (Qi ot Q7)) i) f = 0 then vqq102 else Jp) Jp ([]) vf (Ny (Ze ro ow (Qi ot Q7)) i) _ _ (hT.mono fun b o e => (m104).rest b o e) (RdK.ite (fun h => RdK.cast (gqq102.rd (Mem.pick [_] Hqq102 _ m104)) (Rn h)) (fun h => RdK.cast (RdK.nilE Xk) (Ro h))) (Rd.nil _ _) sL (Nk.rd hrf (Mem.pick4 [_] Hqq102 Hpq102 [_] Hf _ m104)) sL sL sL sL)) ?_
   rintro _ w109 ⟨vqq110, Hqq110, vpq110, Hpq110, rfl, gqq110, gpq110, k_w109⟩
   have m109 : Mem w109 (Qu w0) (Hqq110 ++ (Hpq110 ++ ([(b21_1, .cells (Qp (sS (F5 (Zq ro ot) ([]) (Vx (Ze ro ow (Qi ot Q7)) i) f) (if Gz (Zq ro ot) ([]) (Vx (Ze ro ow (Qi ot Q7)) i) f = 0 then vqq102 else Jp))) 26 (0, 0))] ++ (Hqq102 ++ (Hpq102 ++ ([(b12, .cells (Qp (sS (J3 (Ze ro ow (Qi ot Q7)) i) vk)) 26 (0, 0))] ++ (Hf ++ (Hl ++ ([(b13, .cells (Qp (sS (Zq ro ot) Jp)) 26 (0, 0)), (b8, .cells (cl u8 f) 23 (0, 0))]))))))))) := ymA (Mem.new (H := [(b21_1, .cells (Qp (sS (F5 (Zq ro ot) ([]) (Vx (Ze ro ow (Qi ot Q7)) i) f) (if Gz (Zq ro ot) ([]) (Vx (Ze ro ow (Qi ot Q7)) i) f = 0 then vqq102 else Jp))) 26 (0, 0))] ++ (Hqq102 ++ (Hpq102 ++ ([(b12, .cells (Qp (sS (J3 (Ze ro ow (Qi ot Q7)) i) vk)) 26 (0, 0))] ++ (Hf ++ (Hl ++ ([(b13, .cells (Qp (sS (Zq ro ot) Jp)) 26 (0, 0)), (b8, .cells (cl u8 f) 23 (0, 0))]))))))) (H' := _) m104 k_w109)
   refine Yk rfl <| Qd (Zg rfl rfl) <| Qd (v := vpq110) (Zg rfl rfl) <| Qd (v := (i64 (Gz (F5 (Zq ro ot) ([]) (Vx (Ze ro ow (Qi ot Q7)) i) f) ([]) (Ny (Ze ro ow (Qi ot Q7)) i) f))) (Zg rfl rfl) <| Y5 (Yu m109 Jo) fun w111 b24 m111 => Yb m111 (Jw Jo rfl rfl m111.h0 (Us (RdK.one (RdK.ite (fun h => RdK.cast (gqq110.rd (Mem.pick [_] Hqq110 _ m111)) (Rn h)) (fun h => RdK.cast (RdK.ite (fun h => RdK.cast (gqq102.rd (Mem.pick4 [_] Hqq110 Hpq110 [_] Hqq102 _ m111)) (Rn h)) (fun h => RdK.cast (RdK.nilE Xk) (Ro h))) (Ro h)))))) fun w112 m112 => Zv vpq110 <| Sv rfl <| rN ?_
   have m113 := Mem.drop Hpq102 _ (Mem.pick5 [_] Hqq110 Hpq110 [_] Hqq102 Hpq102 _ m112)
   refine sR <| Yk rfl <| Qd (J5 (b := 0) rfl rfl) <| Yk rfl ?_
   have hd114 : ((Gz (F5 (Zq ro ot) ([]) (Vx (Ze ro ow (Qi ot Q7)) i) f) ([]) (Ny (Ze ro ow (Qi ot Q7)) i) f) == 0) = true := by rw [k3]; rfl
   refine Zt (s := 117) rfl rfl hd114 rfl (Ye (v := vpq110) rfl) <| Zt (s := 117) rfl rfl hd114 rfl (Yg (gpq110.rd (Mem.pick2 [_] Hqq110 Hpq110 _ m113)) Zx rfl) <| Zt (s := 117) rfl rfl hd114 rfl (J5 (b := 1) rfl rfl) <| Qd (V7 rfl hd114 rfl) <| Yk rfl ?_
   have hd115 : (((Ls (F5 (Zq ro ot) ([]) (Vx (Ze ro ow (Qi ot Q7)) i) f) ([]) (Ny (Ze ro ow (Qi ot Q7)) i) f).length : Int) == 1) = true := by rw [k4]; rfl
   refine Zt (s := 122) rfl rfl hd115 rfl (Ye (v := vpq110) rfl) <| Zt (s := 122) rfl rfl hd115 rfl (Xr (i := 0) (gpq110.rd (Mem.pick2 [_] Hqq110 Hpq110 _ m113)) Zx Yw rfl rfl oM sL) <| Zt (s := 122) rfl rfl hd115 rfl (Y4 (l := (Ls (F5 (Zq ro ot) ([]) (Vx (Ze ro ow (Qi ot Q7)) i) f) ([]) (Ny (Ze ro ow (Qi ot Q7)) i) f)) (i := 0) (dflt := 0) (gpq110.rd (Mem.pick2 [_] Hqq110 Hpq110 _ m113)) Uu rfl oM sL rfl) <| Zt (s := 122) rfl rfl hd115 rfl (Qdk (b := 0#8) rfl rfl) <| Qd (V7 rfl hd115 rfl) <| Yk rfl ?_
   have hd116 : (((Ls (F5 (Zq ro ot) ([]) (Vx (Ze ro ow (Qi ot Q7)) i) f) ([]) (Ny (Ze ro ow (Qi ot Q7)) i) f).getD 0 0) == 0#8) = true := by rw [k4]; rfl
   refine Zt (s := 128) rfl rfl hd116 rfl (Zd (r := 165) X6 rfl Yy Ah rfl rfl) <| Zt (s := 128) rfl rfl hd116 rfl (Yp 10 Gt rfl m113.h0 rfl) <| Zt (s := 128) rfl rfl hd116 rfl (Ux (RdK.ite (fun h => RdK.cast (gqq110.rd (Mem.pick [_] Hqq110 _ m113)) (Rn h)) (fun h => RdK.cast (RdK.ite (fun h => RdK.cast (gqq102.rd (Mem.pick4 [_] Hqq110 Hpq110 [_] Hqq102 _ m113)) (Rn h)) (fun h => RdK.cast (RdK.nilE Xk) (Ro h))) (Ro h))) Gt rfl) <| Zt (s := 128) rfl rfl hd116 rfl (J5 (b := 999) rfl rfl) <| Qd (V7 rfl hd116 rfl) <| Sv rfl ?_
   refine rN (Zy ?_)
   refine Qs [(bl ((((F5 (F5 (Zq ro ot) ([]) (Vx (Ze ro ow (Qi ot Q7)) i) f) ([]) (Ny (Ze ro ow (Qi ot Q7)) i) f).ks).length : Int) == 999))] ⟨rfl, trivial⟩ ?_
   have hd117 : ((((F5 (F5 (Zq ro ot) ([]) (Vx (Ze ro ow (Qi ot Q7)) i) f) ([]) (Ny (Ze ro ow (Qi ot Q7)) i) f).ks).length : Int) == 999) = true := by rw [k5]; rfl
   exact ⟨congrArg bl hd117, Mem.below w0 m113⟩
end Go.Proofs.YtkmiemlpfkfiiaaDoor
