/- The ratchet: what was enciphered is deciphered. Conditions: none beyond those that each theorem states. -/
import Derived.Test.YtkmiemlpfkfiiaaDoorRc2
import Derived.Test.YtkmiemlpfkfiiaaDoorCuT
namespace Go.Proofs.YtkmiemlpfkfiiaaDoor
set_option linter.unusedVariables false
set_option linter.unusedSimpArgs false
theorem Qd3 (c t : Zj) (h : t.length = 32) : Dt (c ++ t) = c := by
 unfold Dt; rw [List.length_append, h, Nat.add_sub_cancel]; exact List.take_left
theorem Qdv (key nz la p : Zj) : Uz key nz la (Ko key nz la p) = true := by
 unfold Uz Ko
 rw [Qd3 _ _ (Tc _ _ _ _), List.length_append, Tc, Nat.add_sub_cancel, List.drop_left]
 exact beq_self_eq_true _
theorem Qhk (key nz la p : Zj) : Qba key nz la (Ko key nz la p) = 0 := by
 rw [C9 (by rw [Eh]; omega) (Qdv key nz la p)]; rfl
theorem Qfp (key nz la p : Zj) : Rz key nz la (Ko key nz la p) = p := by
 rw [Eo (by rw [Eh]; omega) (Qdv key nz la p)]
 show Gq key nz (Dt (Ko key nz la p)) = p
 unfold Ko
 rw [Qd3 _ _ (Tc _ _ _ _)]
 exact Qnc _ _ _ _ _
def J3 (S : Sn) : Nat → Sn
 | 0 => S
 | n + 1 => Qbb (J3 S n)
def chn (t : Zj) : Nat → Zj
 | 0 => t
 | n + 1 => Zu (chn t n) [2#8]
theorem Qmv (S : Sn) (h : S.sb = true) (h1 : S.n1 = 0) : ∀ n, n < 2147483647 → (J3 S n).w = S.w ∧ (J3 S n).s = chn S.s n ∧ (J3 S n).n3 = S.n3 ∧ (J3 S n).n1 = n ∧ (J3 S n).ks = S.ks ∧ Ua (J3 S n) = 0 := by
 intro n
 induction n with
 | zero => intro _; exact ⟨rfl, rfl, rfl, h1, rfl, Qiw h (by show S.n1 ≠ _; rw [h1]; decide)⟩
 | succ n ih =>
  intro hn
  obtain ⟨a, b, c, d, e, g⟩ := ih oM
  have hs : (J3 S n).sb = true := by
   cases e : (J3 S n).sb with
   | true => rfl
   | false => rw [Qlt e] at g; exact absurd g Yh
  have e1 : J3 S (n + 1) = (J3 S n).one := (Qkq (b := []) (p := []) g).1
  rw [e1]
  have e2 : (J3 S n).one.n1 = ((n + 1 : Nat) : Int) := by show (J3 S n).n1 + 1 = _; rw [d]; rfl
  exact ⟨a, by show Zu (J3 S n).s [2#8] = _; rw [b]; rfl, c, e2, e, Qiw hs (by rw [e2]; omega)⟩
theorem Qkg {n : Int} (h : 0 ≤ n) (h1 : n ≤ 2147483647) (X : Zj) : Va (Ak n ++ X) = n := by
 unfold Va Ak
 simp only [List.cons_append, List.getD_cons_zero, List.getD_cons_succ, BitVec.toNat_ofInt]
 omega
theorem Qbt {ow ch : Zj} {n : Int} {b p : Zj} (h0 : 0 ≤ n) (h1 : n ≤ 2147483647) :
  D5 (Gy ow ch 0 n b p) = true ∧ Kt (Gy ow ch 0 n b p) = ⟨Qi ow Q7, 0, n, Jy _ _⟩ ∧ (Gy ow ch 0 n b p).take 40 = Wi (Qi ow Q7) 0 n ∧ (Gy ow ch 0 n b p).drop 40 = Ko (Zu ch [1#8]) (List.replicate 12 0) (b ++ Wi (Qi ow Q7) 0 n) p := by
 have hP : (Qi ow Q7).length = 32 := Jy _ _
 have hl := Qay (p := 0) (n := n) hP
 generalize hX : Ko (Zu ch [1#8]) (List.replicate 12 0) (b ++ Wi (Qi ow Q7) 0 n) p = X
 have e : Gy ow ch 0 n b p = Wi (Qi ow Q7) 0 n ++ X := by rw [← hX]; rfl
 rw [e]
 have d40 : (Wi (Qi ow Q7) 0 n ++ X).drop 40 = X := by rw [← hl, List.drop_left]
 have t40 : (Wi (Qi ow Q7) 0 n ++ X).take 40 = Wi (Qi ow Q7) 0 n := by rw [← hl, List.take_left]
 have e2 : Wi (Qi ow Q7) 0 n ++ X = Qi ow Q7 ++ (Ak 0 ++ (Ak n ++ X)) := by unfold Wi; simp only [List.append_assoc]
 have d32 : (Wi (Qi ow Q7) 0 n ++ X).drop 32 = Ak 0 ++ (Ak n ++ X) := by rw [e2, ← hP, List.drop_left]
 have t32 : (Wi (Qi ow Q7) 0 n ++ X).take 32 = Qi ow Q7 := by rw [e2, ← hP, List.take_left]
 have d36 : (Wi (Qi ow Q7) 0 n ++ X).drop 36 = Ak n ++ X := by
  rw [show (36 : Nat) = 32 + 4 from rfl, ← List.drop_drop, d32, ← Qj5 0, List.drop_left]
 have g1 : Va ((Wi (Qi ow Q7) 0 n ++ X).drop 32) = 0 := by rw [d32]; exact Qkg Yh Yh _
 have g2 : Va ((Wi (Qi ow Q7) 0 n ++ X).drop 36) = n := by rw [d36]; exact Qkg h0 h1 _
 have ok : D5 (Wi (Qi ow Q7) 0 n ++ X) = true := Qmo (by rw [List.length_append, hl]; omega) (by rw [g1]; decide) (by rw [g2]; omega)
 refine ⟨ok, ?_, t40, d40⟩
 rw [(Qfw ok).1]
 have e3 : Gf ((Wi (Qi ow Q7) 0 n ++ X).take 32) = Qi ow Q7 := by rw [t32, Ut hP]
 have : ∀ (c c' : Zj) (p p' n n' : Int) (h : c.length = 32) (h' : c'.length = 32), c = c' → p = p' → n = n' → Hd.mk c p n h = Hd.mk c' p' n' h' := by
  intro c c' p p' n n' h h' a b c; subst a b c; rfl
 exact this _ _ _ _ _ _ _ _ e3 g1 g2
theorem skip_t (S : Sn) : ∀ k, (Zp S k).t = chn S.t k ∧ (Zp S k).o = S.o
 | 0 => ⟨rfl, rfl⟩
 | k + 1 => by
  obtain ⟨a, b⟩ := skip_t S k
  exact ⟨by show Zu (Zp S k).t [2#8] = _; rw [a]; rfl, b⟩
theorem skip_0 (S : Sn) (h : S.ks = []) (hn : S.n2 = 0) : ∀ k, 0 < k → (Zp S k).ks[0]? = some ⟨S.o, 0, Zu S.t [1#8], S.ho, Jd _ _⟩
 | 1, _ => by
  show (S.ks ++ [_])[0]? = _
  rw [h]
  simp only [List.nil_append, List.getElem?_cons_zero]
  have : ∀ (n n' : Int) (c k : Zj) (h : c.length = 32) (h1 : k.length = 32), n = n' → Kp.mk c n k h h1 = Kp.mk c n' k h h1 := by intro n n' c k h h1 e; subst e; rfl
  exact congrArg some (this _ _ _ _ _ _ hn)
 | k + 2, _ => by
  show ((Zp S (k + 1)).ks ++ [_])[0]? = _
  rw [List.getElem?_append_left (by rw [Tf]; omega)]
  exact skip_0 S h hn (k + 1) oM
attribute [local irreducible] Qi Q7 Yq Ya Zu Ko Wi Ak Gf Gy
section
variable {ro ow ot : Zj}
def Ag (ro ow ot f : Zj) : Sn := (Zq ro ot).renew (Qi ow Q7) f
theorem Bd (ro ow ot f : Zj) : (Ag ro ow ot f).n2 = 0 ∧ (Ag ro ow ot f).ks = [] ∧ (Ag ro ow ot f).o = Gf (Qi ow Q7) ∧ (Ag ro ow ot f).t = Yq (Gf ro) (Qi (Gf ot) (Qi ow Q7)) := ⟨rfl, rfl, rfl, rfl⟩
theorem ans_t (hro : ro.length = 32) (how : ow.length = 32) (hot : ot.length = 32) (f : Zj) : (Ag ro ow ot f).t = Yq ro (Qi ow (Qi ot Q7)) := by
 rw [(Bd ro ow ot f).2.2.2, Ut hro, Ut hot, Qnq hot how]
theorem Qik (how : ow.length = 32) (n : Nat) (hn : n < 2147483647) (b p : Zj) : Eg (J3 (Ze ro ow (Qi ot Q7)) n) b p = Gy ow (chn (Yq ro (Qi ow (Qi ot Q7))) n) 0 n b p := by
 obtain ⟨h1, h2, h3, h4, h5, h6⟩ := Qmv (Ze ro ow (Qi ot Q7)) rfl rfl n hn
 rw [(Qkq h6).2.1, h1, h2, h3, h4]
 show Gy (Gf ow) _ _ _ _ _ = _
 rw [Ut how]; rfl
theorem Qin (f : Zj) (n : Nat) : Pn (Ag ro ow ot f) n = decide (1000 < n) := by
 unfold Pn
 rw [(Bd ro ow ot f).1]
 by_cases h : 1000 < n
 ·rw [decide_eq_true h]; exact decide_eq_true oM
 rw [decide_eq_false h]; exact decide_eq_false oM
section
variable {s : Zj} {n : Nat} {f : Zj}
theorem Qmh (hh : Kt s = ⟨Qi ow Q7, 0, n, Jy _ _⟩) : Qa5 (Zq ro ot) (Kt s) = false ∧ Jl (Zq ro ot) (Kt s) f = Ag ro ow ot f := by
 refine ⟨too_b rfl, ?_⟩
 rw [rch0_b (by unfold Qej; rw [show (Zq ro ot).tb = false from rfl]; simp) rfl, hh]; rfl
theorem Qcp : Ee (Zq ro ot) s = -1 := rfl
end
theorem leave_t {S : Sn} {n : Int} (h : Pn S n = false) : Xw S n = Qd0 S n := by unfold Xw; rw [h]; rfl
theorem trim_t (S : Sn) (k : Nat) : (S.trim k).t = S.t := rfl
theorem Qha (f : Zj) {n : Nat} (h : n ≤ 1000) : (Xw (Ag ro ow ot f) n).t = chn (Ag ro ow ot f).t n ∧ (Xw (Ag ro ow ot f) n).n2 = n ∧ (Xw (Ag ro ow ot f) n).ks = (Zp (Ag ro ow ot f) n).ks := by
 rw [leave_t (by rw [Qin]; exact decide_eq_false oM)]
 unfold Qd0
 rw [(Bd ro ow ot f).1, show ((n : Int) - 0).toNat = n by omega]
 have hl : (Zp (Ag ro ow ot f) n).ks.length = n := by rw [Tf]; show 0 + n = n; omega
 refine ⟨(trim_t _ _).trans (skip_t _ n).1, ?_, ?_⟩
 ·have h2 := Qeq (Ag ro ow ot f) n
  rw [(Bd ro ow ot f).1] at h2
  exact (Qma _ _).trans (h2.trans oM)
 rw [← Qeo, hl, show n - 2000 = 0 by omega, List.drop_zero]
theorem trip_far (hro : ro.length = 32) (how : ow.length = 32) (hot : ot.length = 32) (f b p : Zj) {n : Nat} (h : 1000 < n) (hn : n < 2147483647) : Gz (Zq ro ot) b (Eg (J3 (Ze ro ow (Qi ot Q7)) n) b p) f = 12 := by
 rw [Qik how n hn]
 obtain ⟨h1, h2, h3, h4⟩ := Qbt (ow := ow) (ch := chn (Yq ro (Qi ow (Qi ot Q7))) n) (n := (n : Int)) (b := b) (p := p) oM oM
 generalize Gy ow (chn (Yq ro (Qi ow (Qi ot Q7))) n) 0 n b p = s at *
 obtain ⟨h5, h6⟩ := Qmh (ro := ro) (ot := ot) (f := f) h2
 have hN : (Kt s).n = (n : Int) := by rw [h2]
 have hf : Pn (Jl (Zq ro ot) (Kt s) f) (Kt s).n = true := by rw [h6, hN, Qin]; exact decide_eq_true h
 have h7 := Qmg (S := Zq ro ot) (h := Kt s) (f := f) h5 (by rw [h6, hN, (Bd ro ow ot f).1]; omega) (by rw [Qcn hf]; decide)
 have h8 : Qaj (Zq ro ot) s f = 12 := by rw [Qcx h1 (by rw [Qcp]; decide), h7.1, Qcn hf]
 rw [decE_1 (by rw [h8]; decide), h8]
theorem trip (hro : ro.length = 32) (how : ow.length = 32) (hot : ot.length = 32) (f b p : Zj) {n : Nat} (h : n ≤ 1000) :
  Gz (Zq ro ot) b (Eg (J3 (Ze ro ow (Qi ot Q7)) n) b p) f = 0 ∧ Ls (Zq ro ot) b (Eg (J3 (Ze ro ow (Qi ot Q7)) n) b p) f = p ∧ F5 (Zq ro ot) b (Eg (J3 (Ze ro ow (Qi ot Q7)) n) b p) f = (Xw (Ag ro ow ot f) n).take1 := by
 rw [Qik how n oM]
 obtain ⟨h1, h2, h3, h4⟩ := Qbt (ow := ow) (ch := chn (Yq ro (Qi ow (Qi ot Q7))) n) (n := (n : Int)) (b := b) (p := p) oM oM
 generalize Gy ow (chn (Yq ro (Qi ow (Qi ot Q7))) n) 0 n b p = s at *
 obtain ⟨h5, h6⟩ := Qmh (ro := ro) (ot := ot) (f := f) h2
 have hN : (Kt s).n = (n : Int) := by rw [h2]
 have hf : Pn (Ag ro ow ot f) (n : Int) = false := by rw [Qin]; exact decide_eq_false oM
 have h7 := rch_ok (S := Zq ro ot) (h := Kt s) (f := f) h5 (by rw [h6, hN, (Bd ro ow ot f).1]; omega) (Qka (by rw [h6, hN]; exact hf))
 rw [h6, hN] at h7
 have hk : Cf (Zq ro ot) s f = Zu (chn (Yq ro (Qi ow (Qi ot Q7))) n) [1#8] := by
  rw [Qkc (by rw [Qcp]; decide), h7.2.2, (Qha f h).1, ans_t hro how hot]
 have hd : Qaj (Zq ro ot) s f = 0 := by rw [Qcx h1 (by rw [Qcp]; decide), h7.1]
 have hE : Gz (Zq ro ot) b s f = 0 := by rw [Qi0 hd, hk]; unfold Qfo; rw [h3, h4]; exact Qhk _ _ _ _
 obtain ⟨z1, z2, z3⟩ := Qkt hE
 refine ⟨hE, ?_, ?_⟩
 ·rw [z2, hk]; unfold opnP; rw [h3, h4]; exact Qfp _ _ _ _
 rw [z1, Qml (by rw [Qcp]; decide), h7.2.1]
theorem Qnf (hro : ro.length = 32) (how : ow.length = 32) (hot : ot.length = 32) (f b p g : Zj) {n : Nat} (h : n ≤ 1000) (h0 : 0 < n) {D : Sn} (hD : D = (Xw (Ag ro ow ot f) n).take1) :
  D.ks.length = n ∧ D.n2 = n + 1 ∧ Gz D b (Eg (Ze ro ow (Qi ot Q7)) b p) g = 0 ∧ Ls D b (Eg (Ze ro ow (Qi ot Q7)) b p) g = p ∧ (F5 D b (Eg (Ze ro ow (Qi ot Q7)) b p) g).ks.length = n - 1 := by
 have hm := Qik (ro := ro) (ot := ot) how 0 Yh b p
 rw [show J3 (Ze ro ow (Qi ot Q7)) 0 = Ze ro ow (Qi ot Q7) from rfl] at hm
 rw [hm]
 obtain ⟨h1, h2, h3, h4⟩ := Qbt (ow := ow) (ch := chn (Yq ro (Qi ow (Qi ot Q7))) 0) (n := ((0 : Nat) : Int)) (b := b) (p := p) oM oM
 generalize Gy ow (chn (Yq ro (Qi ow (Qi ot Q7))) 0) 0 ((0 : Nat) : Int) b p = s at *
 obtain ⟨l1, l2, l3⟩ := Qha (ro := ro) (ow := ow) (ot := ot) f h
 obtain ⟨a1, a2, a3, a4⟩ := Bd ro ow ot f
 have hks : D.ks = (Zp (Ag ro ow ot f) n).ks := by rw [hD]; exact l3
 have hlen : D.ks.length = n := by rw [hks, Tf, a2]; show 0 + n = n; omega
 have hn2 : D.n2 = (n : Int) + 1 := by rw [hD]; show (Xw (Ag ro ow ot f) n).n2 + 1 = _; rw [l2]
 have hz := skip_0 (Ag ro ow ot f) a2 a1 n h0
 have hg : D.ks.getD 0 Ep = ⟨(Ag ro ow ot f).o, 0, Zu (Ag ro ow ot f).t [1#8], (Ag ro ow ot f).ho, Jd _ _⟩ := by
  rw [hks, List.getD_eq_getElem?_getD, hz]; rfl
 have hh : Qa8 (Kt s).c (Kt s).n (D.ks.getD 0 Ep) = true := by
  rw [hg, h2]
  unfold Qa8
  show ((Ag ro ow ot f).o == Qi ow Q7 && (0 : Int) == ((0 : Nat) : Int)) = true
  rw [a3, Ut (Jy _ _)]; simp
 have hf0 : Ee D s = ((0 : Nat) : Int) := Qmr oM (by intro m hm; omega) hh
 have hin : 0 ≤ Ee D s := by rw [hf0]; decide
 have hk : Cf D s g = Zu (chn (Yq ro (Qi ow (Qi ot Q7))) 0) [1#8] := by
  rw [Qmn hin, hf0]
  show (D.ks.getD 0 Ep).k = _
  rw [hg]
  show Zu (Ag ro ow ot f).t [1#8] = _
  rw [ans_t hro how hot]; rfl
 have hE : Gz D b s g = 0 := by rw [Qi0 (Qmy h1 hin), hk]; unfold Qfo; rw [h3, h4]; exact Qhk _ _ _ _
 obtain ⟨z1, z2, z3⟩ := Qkt hE
 refine ⟨hlen, hn2, hE, ?_, ?_⟩
 ·rw [z2, hk]; unfold opnP; rw [h3, h4]; exact Qfp _ _ _ _
 rw [z1, mid_in hin, hf0]
 show (D.ks.take 0 ++ D.ks.drop (0 + 1)).length = _
 rw [List.length_append, List.length_take, List.length_drop, hlen]; omega
end
end Go.Proofs.YtkmiemlpfkfiiaaDoor
