/- 2 to the 255 less 19 is a prime. Conditions: none beyond those that each theorem states. -/
import Derived.Test.YtkmiemlpfkfiiaaDoorRb9
import Derived.Test.YtkmiemlpfkfiiaaDoorFwY
import Derived.Test.YtkmiemlpfkfiiaaDoorCuP
namespace Go.Proofs.YtkmiemlpfkfiiaaDoor
open List renaming append_assoc → aQ, length_map → bH, range → bP
open Mem renaming drop → aF, pick → aC, pick2 → aN
open Nat renaming le_of_dvd → dw, mod_eq_of_lt → ah, mod_mod → dU, mul_assoc → bZ, mul_comm → df, mul_mod → bu, pow_succ → dX
open Tryd
section
set_option linter.unusedVariables false
set_option linter.unusedSimpArgs false
section
variable {w : World} {R : Rest}
theorem Mem.pick8 (A0 A1 A2 A3 A4 A5 A6 A7 B C : List (Nat × Obj)) (h : Mem w R (A0 ++ (A1 ++ (A2 ++ (A3 ++ (A4 ++ (A5 ++ (A6 ++ (A7 ++ (B ++ (C))))))))))) : Mem w R (B ++ (A0 ++ (A1 ++ (A2 ++ (A3 ++ (A4 ++ (A5 ++ (A6 ++ (A7 ++ (C)))))))))) := by
 have := Mem.pick7 (A0 ++ A1) A2 A3 A4 A5 A6 A7 B C (by simpa only [aQ] using h)
 simpa only [aQ] using this
theorem Mem.pick9 (A0 A1 A2 A3 A4 A5 A6 A7 A8 B C : List (Nat × Obj)) (h : Mem w R (A0 ++ (A1 ++ (A2 ++ (A3 ++ (A4 ++ (A5 ++ (A6 ++ (A7 ++ (A8 ++ (B ++ (C)))))))))))) : Mem w R (B ++ (A0 ++ (A1 ++ (A2 ++ (A3 ++ (A4 ++ (A5 ++ (A6 ++ (A7 ++ (A8 ++ (C))))))))))) := by
 have := Mem.pick8 (A0 ++ A1) A2 A3 A4 A5 A6 A7 A8 B C (by simpa only [aQ] using h)
 simpa only [aQ] using this
end
theorem Qli (ro ow : Z4) : Lt (Xo ro ow) = 13 := Qq9 rfl
theorem second_c (ro ow b p : Z4) : Qb1 (Xo ro ow) b p = [] := (Qq6 (by rw [Qli]; decide)).2.1
theorem Qng (ro ow ot : Z4) : Lt (Ea ro ow ot) = 0 := Qno rfl (by show (0 : Int) ≠ 2147483647; decide)
theorem Ql1 (ro ow ot b p : Z4) : (Qb1 (Ea ro ow ot) b p).length = p.length + 72 := by
 rw [(Qpk (b := b) (p := p) (Qng ro ow ot)).2.1]
 unfold Ba; rw [List.length_append, Qhh (Gz _ _), Rk]; omega
@[simp] theorem second_n1 (ro ow : Z4) : (Xo ro ow).n1 = 0 := rfl
@[simp] theorem Qti (ro ow : Z4) : (Xo ro ow).n2 = 0 := rfl
@[simp] theorem second_n3 (ro ow : Z4) : (Xo ro ow).n3 = 0 := rfl
@[simp] theorem Qlh (ro ow : Z4) : (Xo ro ow).ks = [] := rfl
@[simp] theorem first_n1 (ro ow ot : Z4) : (Ea ro ow ot).n1 = 0 := rfl
@[simp] theorem first_n2 (ro ow ot : Z4) : (Ea ro ow ot).n2 = 0 := rfl
@[simp] theorem first_n3 (ro ow ot : Z4) : (Ea ro ow ot).n3 = 0 := rfl
@[simp] theorem first_ks (ro ow ot : Z4) : (Ea ro ow ot).ks = [] := rfl
theorem RdK.nilE {α : Type} {enc : α → List Value} {k : Nat} {m : Nat → Option Obj} {l : List α} (e : l = []) : RdK m enc k (.slice none 0 0) l := e ▸ RdK.nil _ _
section
variable {P : Program} {n : Nat} {l le : List Oper} {N : (Nat → Value) → World → Prop} {R : Rest}
variable {D : Nat → Nat} {Vl : Nat → Nat → Value} {Ob : Nat → Obj} {Fin : (Nat → Value) → List (Nat × Obj) → Prop} {A UF : List Nat} {tail : List Oper} {r2 : List (Nat × Bool)}
variable {d' : Nat} {v' : Nat → Value} {ob' : Obj}
end
attribute [local irreducible] Si We Eg X8 Y7 Ba Wh Wv Kw Xc Gv Gn Zu Yn Yy F7 Ns Xf hdR hdE V5 Su Td Nq Qbq Qbd Jo
attribute [local irreducible] Lt Ez Sv Bo Qho Qb1 Qgq encK Ea Xo
set_option maxHeartbeats 2000000 in
theorem Qrk  (w0 : World)  (hT : Tabs (Jd w0)) : Xz prog 9 #[] w0 (fun r w1 => r = (bl true) ∧ Ext w0 w1) := by
 refine Qz (args := []) func9 rfl ntmps9 results9 rfl ?_
 have m0 : Mem w0 (Qs w0) [] := Mem.of_world w0
 have hc1 := Gz ([1#8] ++ List.replicate 31 0#8) Yy
 refine sR <| Zx (bl false) ?_
 refine rN (sR ?_)
 refine Qd (Gq (c := (cl u8 ((Ej 1#8)))) Zh Xn Yr (Jp (i := 0) (v := (u8 1#8)) (cs := #[(u8 1#8)]) rfl rfl Vt) Xv) <| U5 m0 (oc27 (Jz rfl) (Qrq _ _ sL)) fun w1 m1 => Y5 (Ju m1 Qil) fun w3 b1 m3 => Vd (Gy [((Ej 1#8)).map u8, (Zu ((Ej 1#8)) Yy).map u8] Qil rfl rfl (Eh (n := 32) (m := 32) (k := 64) (by first | rfl | (rw [bH]; first | omega | (simp; done) | (simp; omega))) (Eh (n := 32) (m := 0) (k := 32) (by first | rfl | (rw [bH]; first | omega | (simp; done) | (simp; omega))) Qdl rfl) rfl) (Ym (Jf Qr _) (Ym (Jf Qr _) U6)) m3.h0 rfl rfl) ?_
 rintro _ w4 uq4
 have m4 : Mem _ _ [(b1, .cells (Qy [((Ej 1#8)).map u8, (Zu ((Ej 1#8)) Yy).map u8]) 39 (0, 0))] := m3.upd0 uq4
 refine rN (sR ?_)
 refine Qd (Gq (c := (cl u8 ((Ej 5#8)))) Zh Xn Yr (Jp (i := 0) (v := (u8 5#8)) (cs := #[(u8 5#8)]) rfl rfl Vt) Xv) <| Qd (Ky Qjc Qil rfl m4.h0) <| U5 m4 (oc18 (Xl rfl rfl) (Qma _ _ _ _ sL sL sL)) fun w5 m5 => Y5 (Ju m5 J5) fun w7 b2 m7 => Ye m7 (Ko J5 rfl rfl m7.h0 (Ur rfl)) fun w8 m8 => ?_
 refine rN (sR ?_)
 refine Qd (Ky Yc J5 rfl m8.h0) <| Vr (oc12 (Dy rfl rfl rfl) (Qrr (Xo ((Ej 5#8)) ((Ej 1#8))) J3 J3 ([]) J3 ([]) _ (hT.mono fun b o e => (m8).rest b o e) (RdK.nilE Ya) sL (Rd.nil _ _) sL (Rd.nil _ _) sL sL sL)) ?_
 rintro _ w9 ⟨vqq10, Hqq10, vcq10, Hcq10, rfl, gqq10, gcq10, k_w9⟩
 have m9 : Mem w9 (Qs w0) (Hqq10 ++ (Hcq10 ++ ([(b2, .cells (Qy (sS (Xo ((Ej 5#8)) ((Ej 1#8))) J3)) 26 (0, 0)), (b1, .cells (Qy [((Ej 1#8)).map u8, (Zu ((Ej 1#8)) Yy).map u8]) 39 (0, 0))]))) := ymA (Mem.new (H := [(b2, .cells (Qy (sS (Xo ((Ej 5#8)) ((Ej 1#8))) J3)) 26 (0, 0)), (b1, .cells (Qy [((Ej 1#8)).map u8, (Zu ((Ej 1#8)) Yy).map u8]) 39 (0, 0))]) (H' := _) m8 k_w9)
 refine X9 rfl <| Qd (Zr rfl rfl) <| Qd (v := vcq10) (Zr rfl rfl) <| Qd (v := (i64 (Lt (Xo ((Ej 5#8)) ((Ej 1#8)))))) (Zr rfl rfl) <| Y5 (Ju m9 J5) fun w11 b3 m11 => Ye m11 (Ko J5 rfl rfl m11.h0 (Ur (RdK.one (RdK.ite (fun h => RdK.cast (gqq10.rd (aC [_] Hqq10 _ m11)) (Qq7 h)) (fun h => RdK.cast (RdK.nilE Ya) (Qq8 h)))))) fun w12 m12 => Zx vcq10 <| Tc rfl <| rN ?_
 have m13 := aF [_] _ m12
 have m14 := aF Hqq10 _ m13
 refine sR <| Qd (Gq (c := (cl u8 ((Ej 5#8)))) Zh Xn Yr (Jp (i := 0) (v := (u8 5#8)) (cs := #[(u8 5#8)]) rfl rfl Vt) Xv) <| Qd (Ky Qjc Qil rfl ((aN Hcq10 [_] [_] _ m14)).h0) <| Qd (Zl (r := 32) Qjc rfl Jj Zh rfl rfl) <| Qd (Jn 1 Xn Zh rfl ((aN Hcq10 [_] [_] _ m14)).h0 rfl) <| U5 m14 (oc16 (Dy rfl rfl rfl) (Qps _ _ _ _ _ (hT.mono fun b o e => (m14).rest b o e) sL sL sL sL)) fun w15 m15 => Y5 (Qp u8 [1#8] Qr m15 Zn Yr rfl rfl rfl) fun w17 b26 m17 => Vr (oc12 (Dy rfl rfl rfl) (Qrr (Ea ((Ej 5#8)) ((Ej 1#8)) (Zu ((Ej 1#8)) Yy)) J3 J3 ([]) (Wi b26 0 1 1) ([1#8]) _ (hT.mono fun b o e => (m17).rest b o e) (RdK.nilE Ya) sL (Rd.nil _ _) sL (Rd.mkA m17.h0) sL sL sL)) ?_
 rintro _ w18 ⟨vqq19, Hqq19, vcq19, Hcq19, rfl, gqq19, gcq19, k_w18⟩
 have m18 : Mem w18 (Qs w0) (Hqq19 ++ (Hcq19 ++ ([(b26, .cells (cl u8 ([1#8])) 5 (0, 0))] ++ (Hcq10 ++ ([(b2, .cells (Qy (sS (Xo ((Ej 5#8)) ((Ej 1#8))) J3)) 26 (0, 0)), (b1, .cells (Qy [((Ej 1#8)).map u8, (Zu ((Ej 1#8)) Yy).map u8]) 39 (0, 0))]))))) := ymA (Mem.new (H := [(b26, .cells (cl u8 ([1#8])) 5 (0, 0))] ++ (Hcq10 ++ ([(b2, .cells (Qy (sS (Xo ((Ej 5#8)) ((Ej 1#8))) J3)) 26 (0, 0)), (b1, .cells (Qy [((Ej 1#8)).map u8, (Zu ((Ej 1#8)) Yy).map u8]) 39 (0, 0))]))) (H' := _) m17 k_w18)
 refine X9 rfl <| Qd (Zr rfl rfl) <| Qd (v := vcq19) (Zr rfl rfl) <| Qd (Zr rfl rfl) <| Y5 (Ju m18 J5) fun w20 b6 m20 => Ye m20 (Ko J5 rfl rfl m20.h0 (Ur (RdK.one (RdK.ite (fun h => RdK.cast (gqq19.rd (aC [_] Hqq19 _ m20)) (Qq7 h)) (fun h => RdK.cast (RdK.nilE Ya) (Qq8 h)))))) fun w21 m21 => Zx vcq19 <| Tc rfl ?_
 refine rN (sR ?_)
 refine X9 rfl <| Qd (G8 (b := 13) rfl rfl) <| X9 rfl ?_
 have hd22 : ((Lt (Xo ((Ej 5#8)) ((Ej 1#8)))) == 13) = true := by rw [Qli]; rfl
 refine Yf (s := 33) rfl rfl hd22 rfl (Jb (v := vcq10) rfl) <| Yf (s := 33) rfl rfl hd22 rfl (Yi (gcq10.rd (Mem.pick4 [_] Hqq19 Hcq19 [_] Hcq10 _ m21)) Zn rfl) <| Yf (s := 33) rfl rfl hd22 rfl (G8 (b := 0) rfl rfl) <| Qd (G6 rfl hd22 rfl) <| X9 rfl ?_
 have hd23 : (((Qb1 (Xo ((Ej 5#8)) ((Ej 1#8))) ([]) ([])).length : Int) == 0) = true := by rw [second_c]; rfl
 refine Yf (s := 38) rfl rfl hd23 rfl (Jb rfl) <| Yf (s := 38) rfl rfl hd23 rfl (G8 (b := 0) rfl rfl) <| Qd (G6 rfl hd23 rfl) <| X9 rfl ?_
 have hd24 : ((Lt (Ea ((Ej 5#8)) ((Ej 1#8)) (Zu ((Ej 1#8)) Yy))) == 0) = true := by rw [Qng]; rfl
 refine Yf (s := 42) rfl rfl hd24 rfl (Jb (v := vcq19) rfl) <| Yf (s := 42) rfl rfl hd24 rfl (Yi (gcq19.rd (aN [_] Hqq19 Hcq19 _ m21)) Zn rfl) <| Yf (s := 42) rfl rfl hd24 rfl (G8 (b := 73) rfl rfl) <| Qd (G6 rfl hd24 rfl) <| Tc rfl <| rN ?_
 have m25 := aF [_] _ m21
 have m26 := aF Hqq19 _ m25
 have m27 := aF [_] _ (aC Hcq19 [_] _ m26)
 refine Z8 <| Qq [(bl (((Qb1 (Ea ((Ej 5#8)) ((Ej 1#8)) (Zu ((Ej 1#8)) Yy)) ([]) ([1#8])).length : Int) == 73))] ⟨rfl, trivial⟩ ?_
 exact ⟨congrArg bl (by rw [Ql1]; rfl), m27.toExt⟩
end --m
section
set_option linter.unusedVariables false
set_option linter.unusedSimpArgs false
open Go.ChangeShapes Go.WideShapes Go.ChangeAt Go.RowKit
section
variable {P : Program}
end
end --m
section
set_option linter.unusedVariables false
set_option linter.unusedSimpArgs false
def Pri (n : Nat) : Prop := 2 ≤ n ∧ ∀ d, d ∣ n → d = 1 ∨ d = n
theorem Pri.cop {p x : Nat} (hp : Pri p) (h : ¬ p ∣ x) : Nat.gcd p x = 1 := (hp.2 _ (Nat.gcd_dvd_left p x)).resolve_right fun e => h (e ▸ Nat.gcd_dvd_right p x)
theorem Pri.dvd_mul {p x y : Nat} (hp : Pri p) (h : p ∣ x * y) : p ∣ x ∨ p ∣ y := by
 by_cases hx : p ∣ x
 ·exact .inl hx
 exact .inr (Nat.Coprime.dvd_of_dvd_mul_left (hp.cop hx) h)
theorem Qjx : ∀ n, 2 ≤ n → ∃ r, Pri r ∧ r ∣ n := by
 intro n
 induction n using Nat.strongRecOn with
 | ind n ih =>
  intro h
  by_cases hp : Pri n
  ·exact ⟨n, hp, Nat.dvd_refl n⟩
  have : ∃ d, d ∣ n ∧ d ≠ 1 ∧ d ≠ n := by
   by_cases hc : ∃ d, d ∣ n ∧ d ≠ 1 ∧ d ≠ n
   ·exact hc
   exfalso; apply hp
   refine ⟨h, fun d hd => ?_⟩
   by_cases h1 : d = 1
   ·exact .inl h1
   by_cases h2 : d = n
   ·exact .inr h2
   exact absurd ⟨d, hd, h1, h2⟩ hc
  obtain ⟨d, hd, h1, h2⟩ := this
  have hle := dw oM hd
  have h0 : d ≠ 0 := by rintro rfl; have := Nat.eq_zero_of_zero_dvd hd; omega
  obtain ⟨r, hr, hrd⟩ := ih d oM oM
  exact ⟨r, hr, Nat.dvd_trans hrd hd⟩
def ch : Nat → Nat → Nat
 | _, 0 => 1
 | 0, _ + 1 => 0
 | n + 1, k + 1 => ch n k + ch n (k + 1)
theorem ch_0 (n : Nat) : ch n 0 = 1 := by cases n <;> rfl
theorem Qkk (n k : Nat) : ch (n + 1) (k + 1) = ch n k + ch n (k + 1) := rfl
theorem Qnq : ∀ n k, (k + 1) * ch (n + 1) (k + 1) = (n + 1) * ch n k
 | 0, 0 => rfl
 | 0, k + 1 => by rw [Qkk]; show (k + 1 + 1) * (0 + 0) = (0 + 1) * 0; omega
 | n + 1, 0 => by
  have := Qnq n 0
  rw [ch_0] at this
  rw [Qkk (n + 1) 0, ch_0]
  omega
 | n + 1, k + 1 => by
  have h1 := Qnq n k
  have h2 := Qnq n (k + 1)
  rw [Qkk (n + 1) (k + 1)]
  rw [Qkk n k] at h1 ⊢
  generalize ch n k = X at *
  generalize ch n (k + 1) = Y at *
  generalize ch (n + 1) (k + 1 + 1) = Z at *
  grind
theorem Qnr : ∀ n k, n < k → ch n k = 0
 | _, 0, h => by omega
 | 0, _ + 1, _ => rfl
 | n + 1, k + 1, h => by rw [Qkk, Qnr n k oM, Qnr n (k + 1) oM]
theorem Qss : ∀ n, ch n n = 1
 | 0 => rfl
 | n + 1 => by rw [Qkk, Qss n, Qnr n (n + 1) oM]
def chS (x n : Nat) : Nat → Nat
 | 0 => 0
 | m + 1 => chS x n m + ch n m * x ^ m
theorem chS_S (x n : Nat) : ∀ m, chS x (n + 1) (m + 1) = chS x n (m + 1) + x * chS x n m
 | 0 => by show 0 + ch (n + 1) 0 * x ^ 0 = 0 + ch n 0 * x ^ 0 + x * 0; rw [ch_0, ch_0]; omega
 | m + 1 => by
  have ih := chS_S x n m
  show chS x (n + 1) (m + 1) + ch (n + 1) (m + 1) * x ^ (m + 1) = chS x n (m + 1) + ch n (m + 1) * x ^ (m + 1) + x * (chS x n m + ch n m * x ^ m)
  rw [ih, Qkk, Nat.add_mul, Nat.mul_add, dX]
  have : x * (ch n m * x ^ m) = ch n m * (x ^ m * x) := by rw [df x, bZ]
  omega
theorem binom (x : Nat) : ∀ n, (x + 1) ^ n = chS x n (n + 1)
 | 0 => by show 1 = 0 + ch 0 0 * x ^ 0; rw [ch_0]; rfl
 | n + 1 => by
  have e : chS x n (n + 1 + 1) = chS x n (n + 1) := by show chS x n (n + 1) + ch n (n + 1) * x ^ (n + 1) = _; rw [Qnr n (n + 1) oM]; omega
  rw [dX, binom x n, chS_S, e, Nat.mul_add, Nat.mul_one, df x]; omega
theorem Qst {r : Nat} (hr : Pri r) (x : Nat) : ∀ m, m + 1 ≤ r → chS x r (m + 1) % r = 1
 | 0, h => by show (0 + ch r 0 * x ^ 0) % r = 1; rw [ch_0]; have := hr.1; rw [Nat.pow_zero]; exact ah oM
 | m + 1, h => by
  have ih := Qst hr x m oM
  obtain ⟨n, rfl⟩ : ∃ n, r = n + 1 := ⟨r - 1, by omega⟩
  have hd : n + 1 ∣ ch (n + 1) (m + 1) := by
   have h1 : n + 1 ∣ (m + 1) * ch (n + 1) (m + 1) := ⟨ch n m, Qnq n m⟩
   rcases hr.dvd_mul h1 with h2 | h2
   ·have := dw oM h2; omega
   exact h2
  show (chS x (n + 1) (m + 1) + ch (n + 1) (m + 1) * x ^ (m + 1)) % (n + 1) = 1
  obtain ⟨c, hc⟩ := hd
  rw [hc, bZ, Nat.add_mul_mod_self_left]; exact ih
theorem fermat {r : Nat} (hr : Pri r) : ∀ a, a ^ r % r = a % r
 | 0 => by have := hr.1; rw [Nat.zero_pow oM]
 | a + 1 => by
  have ih := fermat hr a
  obtain ⟨m, hm⟩ : ∃ m, r = m + 1 := ⟨r - 1, by have := hr.1; omega⟩
  have h1 := Qst hr a m oM
  rw [binom a r]
  show (chS a r r + ch r r * a ^ r) % r = _
  rw [Qss, Nat.one_mul, Nat.add_mod, ih]
  have : chS a r r % r = 1 := by rw [← hm] at h1; exact h1
  rw [this, Nat.add_mod a 1, ah (show 1 < r from by have := hr.1; omega), Nat.add_comm]
theorem Qi1 {r a : Nat} (hr : Pri r) (ha : ¬ r ∣ a) : a ^ (r - 1) % r = 1 := by
 obtain ⟨m, hm⟩ : ∃ m, r = m + 1 := ⟨r - 1, by have := hr.1; omega⟩
 have h2 := hr.1
 have h := fermat hr a
 have e : r - 1 = m := by omega
 rw [e]
 rw [hm, dX, ← hm] at h
 have hpos : 1 ≤ a ^ m := Nat.pow_pos (Nat.pos_of_ne_zero fun h0 => ha (h0 ▸ Nat.dvd_zero r))
 have hd : r ∣ (a ^ m - 1) * a := by
  have h3 : (a ^ m * a - a) % r = 0 := Nat.sub_mod_eq_zero_of_mod_eq h
  have : (a ^ m - 1) * a = a ^ m * a - a := by rw [Nat.sub_mul, Nat.one_mul]
  rw [this]; exact Nat.dvd_of_mod_eq_zero h3
 have h4 := (hr.dvd_mul hd).resolve_right ha
 obtain ⟨c, hc⟩ := h4
 have : a ^ m = 1 + r * c := by omega
 rw [this, Nat.add_mul_mod_self_left]
 exact ah oM
theorem Qsh {r a x : Nat} (hr : 1 < r) (h : a ^ x % r = 1) (k : Nat) : a ^ (x * k) % r = 1 := by
 rw [Nat.pow_mul, Nat.pow_mod, h, Nat.one_pow]; exact ah hr
theorem pow_gcd {r a : Nat} (hr : 1 < r) (x y : Nat) : a ^ x % r = 1 → a ^ y % r = 1 → a ^ Nat.gcd x y % r = 1 := by
 induction x, y using Nat.gcd.induction with
 | H0 y => intro _ h; rw [Nat.gcd_zero_left]; exact h
 | H1 x y hx ih =>
  intro h1 h2
  rw [Nat.gcd_rec]
  refine ih ?_ h1
  have e : a ^ y = a ^ (x * (y / x)) * a ^ (y % x) := by rw [← Nat.pow_add, Nat.div_add_mod]
  rw [e, bu, Qsh hr h1, Nat.one_mul, dU] at h2
  exact h2
theorem pock {N q m a b r : Nat} (hq : Pri q) (hN : N - 1 = q * m) (hN2 : 2 ≤ N) (h1 : a ^ (N - 1) % N = 1) (hb : a ^ m % N = b) (h2 : Nat.gcd (b - 1) N = 1) (hr : Pri r) (hrN : r ∣ N) : q ∣ r - 1 := by
 have hr2 := hr.1
 have g1 : a ^ (N - 1) % r = 1 := by rw [← Nat.mod_mod_of_dvd _ hrN, h1]; exact ah oM
 have ha : ¬ r ∣ a := by
  rintro ⟨c, rfl⟩
  rw [Nat.mul_pow] at g1
  obtain ⟨e, he⟩ : ∃ e, N - 1 = e + 1 := ⟨N - 2, by omega⟩
  rw [he, dX, bZ, df (r ^ e), df _ (r ^ e), bu, bu] at g1
  have : r * c ^ (e + 1) * r ^ e % r = 0 := by rw [bZ]; exact Nat.mul_mod_right _ _
  simp at g1
 have g2 := Qi1 hr ha
 by_cases hd : q ∣ r - 1
 ·exact hd
 exfalso
 have hg := pow_gcd oM _ _ g2 g1
 rw [hN, Nat.Coprime.gcd_mul_left_cancel_right _ (hq.cop hd)] at hg
 obtain ⟨k, hk⟩ := Nat.gcd_dvd_right (r - 1) m
 have g3 : a ^ m % r = 1 := by rw [hk]; exact Qsh oM hg k
 have g4 : b % r = 1 := by rw [← hb, Nat.mod_mod_of_dvd _ hrN]; exact g3
 have g5 : r ∣ b - 1 := by
  refine Nat.dvd_of_mod_eq_zero (Nat.sub_mod_eq_zero_of_mod_eq ?_)
  rw [g4]; exact (ah oM).symm
 have := Nat.dvd_gcd g5 hrN
 rw [h2] at this
 have := dw oM this
 omega
theorem Qm1 {N F : Nat} (hN : 2 ≤ N) (hF : N ≤ F * F) (h : ∀ r, Pri r → r ∣ N → F ≤ r - 1) : Pri N := by
 refine ⟨hN, fun d hd => ?_⟩
 by_cases h1 : d = 1
 ·exact .inl h1
 by_cases h2 : d = N
 ·exact .inr h2
 exfalso
 obtain ⟨e, he⟩ := hd
 have d0 : d ≠ 0 := by rintro rfl; omega
 have e0 : e ≠ 0 := by rintro rfl; omega
 have e1 : e ≠ 1 := by rintro rfl; omega
 obtain ⟨r, hr, hrd⟩ := Qjx d oM
 obtain ⟨s, hs, hse⟩ := Qjx e oM
 have a1 := h r hr (he ▸ Nat.dvd_trans hrd (Nat.dvd_mul_right d e))
 have a2 := h s hs (he ▸ Nat.dvd_trans hse (Nat.dvd_mul_left e d))
 have b1 := dw oM hrd
 have b2 := dw oM hse
 have c1 := hr.1; have c2 := hs.1
 have : (F + 1) * (F + 1) ≤ d * e := Nat.mul_le_mul oM oM
 rw [← he] at this
 have : (F + 1) * (F + 1) = F * F + 2 * F + 1 := by rw [Nat.add_mul, Nat.mul_add]; omega
 omega
theorem Qmn {a b n : Nat} (ha : Pri a) (hab : ¬ a ∣ b) (h1 : a ∣ n) (h2 : b ∣ n) (h0 : 0 < n) : a * b ≤ n := by
 obtain ⟨c, rfl⟩ := h2
 have h3 := (ha.dvd_mul h1).resolve_left hab
 obtain ⟨k, rfl⟩ := h3
 refine dw h0 ⟨k, ?_⟩
 rw [df a b, bZ]
theorem Qd0 {n k : Nat} (h2 : 2 ≤ n) (hk : n < k * k) (h : ((bP k).all fun d => decide (d < 2) || decide (n % d ≠ 0)) = true) : Pri n := by
 have hs : ∀ d, 2 ≤ d → d < k → n % d ≠ 0 := fun d hd hk => by
  have := List.all_eq_true.1 h d (List.mem_range.2 hk)
  rw [Bool.or_eq_true] at this
  rcases this with h3 | h3
  ·have := of_decide_eq_true h3; omega
  exact of_decide_eq_true h3
 refine ⟨h2, fun d hd => ?_⟩
 by_cases h1 : d = 1
 ·exact .inl h1
 by_cases h3 : d = n
 ·exact .inr h3
 exfalso
 obtain ⟨e, he⟩ := hd
 have d0 : d ≠ 0 := by rintro rfl; omega
 have e0 : e ≠ 0 := by rintro rfl; omega
 have e1 : e ≠ 1 := by rintro rfl; omega
 by_cases hdk : d < k
 ·exact hs d oM hdk (by rw [he]; exact Nat.mul_mod_right d e)
 by_cases hek : e < k
 ·exact hs e oM hek (by rw [he]; exact Nat.mul_mod_left d e)
 have : k * k ≤ d * e := Nat.mul_le_mul oM oM
 omega
def forceN {α : Type} (n : Nat) (k : Nat → α) : α :=
 match n with
 | 0 => k 0
 | m + 1 => k (m + 1)
theorem Qua {α : Type} (n : Nat) (k : Nat → α) : forceN n k = k n := by cases n <;> rfl
def pwB (m a : Nat) : List Bool → Nat → Nat
 | [], s => s
 | b :: r, s => forceN (if b then s * s % m * a % m else s * s % m) (pwB m a r)
def valB : List Bool → Nat → Nat
 | [], n => n
 | b :: r, n => valB r (if b then 2 * n + 1 else 2 * n)
theorem pwB_eq {m a : Nat} : ∀ (l : List Bool) (s e : Nat), s % m = a ^ e % m → pwB m a l s % m = a ^ valB l e % m
 | [], s, e, h => h
 | b :: r, s, e, h => by
  unfold pwB valB
  rw [Qua]
  apply pwB_eq
  have h2 : s * s % m = a ^ (2 * e) % m := by rw [bu, h, ← bu, ← Nat.pow_add, Nat.two_mul]
  cases b
  ·show s * s % m % m = _; rw [dU, h2]; rfl
  show s * s % m * a % m % m = _; rw [dU, bu, dU, h2, ← bu, ← dX]; rfl
theorem pw_eq {m a e b : Nat} {l : List Bool} (he : valB l 0 = e) (h : pwB m a l 1 % m = b) : a ^ e % m = b := by
 rw [← h, pwB_eq l 1 0 (by rw [Nat.pow_zero]), he]
def E5 (k n : Nat) : List Bool := (bP k).reverse.map fun i => n / 2 ^ i % 2 == 1
theorem Qjy {N q m a b r : Nat} (l1 l2 : List Bool) (hq : Pri q) (hN : N - 1 = q * m) (hN2 : 2 ≤ N) (hl1 : valB l1 0 = N - 1) (h1 : pwB N a l1 1 % N = 1) (hl2 : valB l2 0 = m) (hb : pwB N a l2 1 % N = b) (h2 : Nat.gcd (b - 1) N = 1) (hr : Pri r) (hrN : r ∣ N) : q ∣ r - 1 :=
 pock hq hN hN2 (pw_eq hl1 h1) (pw_eq hl2 hb) h2 hr hrN
theorem pri_47 : Pri 47 := Qd0 (k := 7) Yx Yx (by decide +kernel)
theorem Qtv : Pri 75707 := Qd0 (k := 276) Yx Yx (by decide +kernel)
theorem Qor : Pri 1923133 := Qd0 (k := 1387) Yx Yx (by decide +kernel)
theorem Qh1 : Pri 8574133 := Qd0 (k := 2929) Yx Yx (by decide +kernel)
theorem pri_q4 : Pri 1919519569386763 := Qm1 (F := 8574133 * 47) Yx Yx fun r hr hd => Qmn Qh1 (by decide +kernel) (Qjy (N := 1919519569386763) (q := 8574133) (m := 223873314) (a := 2) (b := 1059928654987441) (E5 51 1919519569386762) (E5 28 223873314) Qh1 (by decide +kernel) Yx (by decide +kernel) (by decide +kernel) (by decide +kernel) (by decide +kernel) (by decide +kernel) hr hd) (Qjy (N := 1919519569386763) (q := 47) (m := 40840841901846) (a := 2) (b := 621931926534591) (E5 51 1919519569386762) (E5 46 40840841901846) pri_47 (by decide +kernel) Yx (by decide +kernel) (by decide +kernel) (by decide +kernel) (by decide +kernel) (by decide +kernel) hr hd) (by have := hr.1; omega)
theorem pri_q2 : Pri 75445702479781427272750846543864801 := Qm1 (F := 1919519569386763 * 75707) Yx Yx fun r hr hd => Qmn pri_q4 (by decide +kernel) (Qjy (N := 75445702479781427272750846543864801) (q := 1919519569386763) (m := 39304471641247389600) (a := 2) (b := 56747016255153332959347766392083459) (E5 116 75445702479781427272750846543864800) (E5 66 39304471641247389600) pri_q4 (by decide +kernel) Yx (by decide +kernel) (by decide +kernel) (by decide +kernel) (by decide +kernel) (by decide +kernel) hr hd) (Qjy (N := 75445702479781427272750846543864801) (q := 75707) (m := 996548568557483816196003626400) (a := 2) (b := 58781699294900834553279248901967638) (E5 116 75445702479781427272750846543864800) (E5 100 996548568557483816196003626400) Qtv (by decide +kernel) Yx (by decide +kernel) (by decide +kernel) (by decide +kernel) (by decide +kernel) (by decide +kernel) hr hd) (by have := hr.1; omega)
theorem pri_q1 : Pri 74058212732561358302231226437062788676166966415465897661863160754340907 := Qm1 (F := 75445702479781427272750846543864801 * 1923133) Yx Yx fun r hr hd => Qmn pri_q2 (by decide +kernel) (Qjy (N := 74058212732561358302231226437062788676166966415465897661863160754340907) (q := 75445702479781427272750846543864801) (m := 981609426360740691344999861639072106) (a := 2) (b := 69490809710348678725736597923071784769591275419387514694139338586948360) (E5 236 74058212732561358302231226437062788676166966415465897661863160754340906) (E5 120 981609426360740691344999861639072106) pri_q2 (by decide +kernel) Yx (by decide +kernel) (by decide +kernel) (by decide +kernel) (by decide +kernel) (by decide +kernel) hr hd) (Qjy (N := 74058212732561358302231226437062788676166966415465897661863160754340907) (q := 1923133) (m := 38509147694185143878364744631319200843710219946028640589009268082) (a := 2) (b := 52266576830164329332527201090776533817489900267135412990654516667243924) (E5 236 74058212732561358302231226437062788676166966415465897661863160754340906) (E5 215 38509147694185143878364744631319200843710219946028640589009268082) Qor (by decide +kernel) Yx (by decide +kernel) (by decide +kernel) (by decide +kernel) (by decide +kernel) (by decide +kernel) hr hd) (by have := hr.1; omega)
theorem pri_p : Pri 57896044618658097711785492504343953926634992332820282019728792003956564819949 := Qm1 (F := 74058212732561358302231226437062788676166966415465897661863160754340907) Yx Yx fun r hr hd => dw (by have := hr.1; omega) (Qjy (N := 57896044618658097711785492504343953926634992332820282019728792003956564819949) (q := 74058212732561358302231226437062788676166966415465897661863160754340907) (m := 781764) (a := 2) (b := 427094198651976259540344842774561673889945192655078505504941250475370961481) (E5 255 57896044618658097711785492504343953926634992332820282019728792003956564819948) (E5 20 781764) pri_q1 (by decide +kernel) Yx (by decide +kernel) (by decide +kernel) (by decide +kernel) (by decide +kernel) (by decide +kernel) hr hd)
end --m
end Go.Proofs.YtkmiemlpfkfiiaaDoor
