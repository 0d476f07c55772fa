/- The ratchet: the laws of what is enciphered and deciphered. Conditions: none beyond those that each theorem states. -/
import Derived.Test.YtkmiemlpfkfiiaaDoorRb9
import Derived.Test.YtkmiemlpfkfiiaaDoorFwf
namespace Go.Proofs.YtkmiemlpfkfiiaaDoor
open Tryd
set_option linter.unusedVariables false
set_option linter.unusedSimpArgs false
section
variable {w : World} {R : Rest}
theorem Mem.pick8 (A0 A1 A2 A3 A4 A5 A6 A7 B C : List (Nat × Obj)) (h : Mem w R (A0 ++ (A1 ++ (A2 ++ (A3 ++ (A4 ++ (A5 ++ (A6 ++ (A7 ++ (B ++ (C))))))))))) : Mem w R (B ++ (A0 ++ (A1 ++ (A2 ++ (A3 ++ (A4 ++ (A5 ++ (A6 ++ (A7 ++ (C)))))))))) := by
 have := Mem.pick7 (A0 ++ A1) A2 A3 A4 A5 A6 A7 B C (by simpa only [List.append_assoc] using h)
 simpa only [List.append_assoc] using this
theorem Mem.pick9 (A0 A1 A2 A3 A4 A5 A6 A7 A8 B C : List (Nat × Obj)) (h : Mem w R (A0 ++ (A1 ++ (A2 ++ (A3 ++ (A4 ++ (A5 ++ (A6 ++ (A7 ++ (A8 ++ (B ++ (C)))))))))))) : Mem w R (B ++ (A0 ++ (A1 ++ (A2 ++ (A3 ++ (A4 ++ (A5 ++ (A6 ++ (A7 ++ (A8 ++ (C))))))))))) := by
 have := Mem.pick8 (A0 ++ A1) A2 A3 A4 A5 A6 A7 A8 B C (by simpa only [List.append_assoc] using h)
 simpa only [List.append_assoc] using this
end
theorem Qsc {P : Program} {fr : Nat → Value} {w : World} {ty : TypeId} {x y : Operand} {t t' A I E : TypeId} {f1 f2 f3 : Field} {z zA : Option Value} {kb kbA : Nat} {l1 m1 : Z8} {l2 m2 l3 m3 : Int} (ht : P.underlying t = some (.struct #[f1, f2, f3])) (hp : P.stoodInHeld t = false) (n1 : (f1.name == "_") = false) (n2 : (f2.name == "_") = false) (n3 : (f3.name == "_") = false) (t1 : f1.type = A) (t2 : f2.type = I) (t3 : f3.type = I) (o1 : f1.offset = 0) (o2 : f2.offset = 32) (o3 : f3.offset = 33)
  (hA : P.underlying A = some (.array 32 E)) (hiA : Jh P A = some (zA, 32, kbA)) (hE : P.underlying E = some (.int .u8)) (hiE : Jh P E = some (z, 1, kb)) (hI : P.underlying I = some (.int .i64)) (hg : P.eqGuardType P.depth t = false) (hx : Ql fr x = .agg (Qz (sH l1 l2 l3))) (hy : Ql fr y = .agg (Qz (sH m1 m2 m3))) (a1 : l1.length = 32) (b1 : m1.length = 32) :
  Jy P fr w (.binOp .neq t x y t') ty (bl (!(l1 == m1 && (l2 == m2 && (l3 == m3 && true))))) := by
 have h1 : FldEq P w 9999 f1 (Qz (sH l1 l2 l3)) (Qz (sH m1 m2 m3)) (l1 == m1) := Qgy (d := 9997) [] [[i64 l2], [i64 l3]] [] [[i64 m2], [i64 m3]] n1 t1 o1 hA hiA hE hiE a1 b1 rfl rfl
 have h2 : FldEq P w 9999 f2 (Qz (sH l1 l2 l3)) (Qz (sH m1 m2 m3)) (l2 == m2) := Qgx (d := 9998) [l1.map u8] [[i64 l3]] [m1.map u8] [[i64 m3]] n2 t2 o2 hI (by simp [a1]) (by simp [b1])
 have h3 : FldEq P w 9999 f3 (Qz (sH l1 l2 l3)) (Qz (sH m1 m2 m3)) (l3 == m3) := Qgx (d := 9998) [l1.map u8, [i64 l2]] [] [m1.map u8, [i64 m2]] [] n3 t3 o3 hI (by simp [a1]) (by simp [b1])
 exact Qg1 hg (Qqf (d := 9999) ht hp (Qb6 h1 (Qb6 h2 (Qb6 h3 Qqv)))) hx hy
theorem Qkw (ro ow : Z8) : Tv (Ea ro ow) = 13 := enc_13 rfl
theorem second_c (ro ow b p : Z8) : Qjs (Ea ro ow) b p = [] := (Qpn (by rw [Qkw]; decide)).2.1
theorem Qqt (ro ow ot : Z8) : Tv (P9 ro ow ot) = 0 := enc_00 rfl (by show (0 : Int) ≠ 2147483647; decide)
theorem Qr6 (ro ow ot b p : Z8) : (Qjs (P9 ro ow ot) b p).length = p.length + 72 := by
 rw [(enc_z (b := b) (p := p) (Qqt ro ow ot)).2.1]
 unfold Qaz; rw [List.length_append, Qk9 (Ba _ _), Qes]; omega
@[simp] theorem second_n1 (ro ow : Z8) : (Ea ro ow).n1 = 0 := rfl
@[simp] theorem second_n2 (ro ow : Z8) : (Ea ro ow).n2 = 0 := rfl
@[simp] theorem second_n3 (ro ow : Z8) : (Ea ro ow).n3 = 0 := rfl
@[simp] theorem second_ks (ro ow : Z8) : (Ea ro ow).ks = [] := rfl
@[simp] theorem first_n1 (ro ow ot : Z8) : (P9 ro ow ot).n1 = 0 := rfl
@[simp] theorem first_n2 (ro ow ot : Z8) : (P9 ro ow ot).n2 = 0 := rfl
@[simp] theorem first_n3 (ro ow ot : Z8) : (P9 ro ow ot).n3 = 0 := rfl
@[simp] theorem first_ks (ro ow ot : Z8) : (P9 ro ow ot).ks = [] := rfl
theorem RdK.nilE {α : Type} {enc : α → List Value} {k : Nat} {m : Nat → Option Obj} {l : List α} (e : l = []) : RdK m enc k (.slice none 0 0) l := e ▸ RdK.nil _ _
theorem hdR_le {b : Z8} : (hdR b).length ≤ b.length := by
 cases h : P7 b with
 | true => rw [(Qe3 h).2.2, List.length_drop]; omega
 | false => rw [(Qhp h).2.2]; exact Nat.zero_le _
def Qg8 (bs : List Nat) : List Nat → Bool
 | [] => false
 | x :: r => (r.any fun y => (bs.getD x 0).testBit y) || Qg8 bs r
theorem Qg7 {le : List Oper} : ∀ (σ done π : List Nat), L9 .any le done σ → (∀ i ∈ done, Hz .any le i (· ∈ done)) → π.Sublist σ → Qg8 (Qab le) π = false
 | [], _, π, _, _, hp => by rw [List.sublist_nil.1 hp]; rfl
 | i :: σ, done, π, hs, hc, hp => by
  have hn := (Qbb hs).2
  obtain ⟨h1, h2, h3, h4⟩ := hs
  have hc' : ∀ j ∈ i :: done, Hz .any le j (· ∈ i :: done) := by
   intro j hj
   rcases List.mem_cons.1 hj with rfl | hj
   ·exact fun o ho e he hb => List.mem_cons_of_mem _ (h3 o ho e he hb)
   exact fun o ho e he hb => List.mem_cons_of_mem _ (hc j hj o ho e he hb)
  cases hp with
  | cons _ h => exact Qg7 σ _ π h4 hc' h
  | cons_cons _ h =>
   rw [Qg8, Bool.or_eq_false_iff]
   refine ⟨?_, Qg7 σ _ _ h4 hc' h⟩
   rw [List.any_eq_false]
   intro y hy hb
   exact hn y (List.mem_cons_of_mem _ (h.subset hy)) (Qgd (D := (· ∈ done)) hc i h1 h3 y hb)
theorem re_permC {P : Program} {n : Nat} {l le : List Oper} {N : (Nat → Value) → World → Prop} {fr : Nat → Value} {w : World} (A : List Nat) (hll : le.length = l.length) (hA : A.Nodup) (hlt : ∀ a ∈ A, a < le.length) (h : ∀ π, π.Perm A → Qg8 (Qab le) π = false → Ph P n l (D8 π le) N fr w) : Ph P n l le N fr w := by
 refine ⟨hll, fun rd ds σ hs => ?_⟩
 have hn := (Qbb hs).1
 have hp := Qhh hA hn fun a ha => (Qgl hs a (hlt a ha)).resolve_left Ya
 exact (h _ hp (Qg7 σ [] _ hs Ya List.filter_sublist)).2 rd ds σ (Qc8 _ List.filter_sublist hn hs)
section
variable {P : Program} {n : Nat} {l le : List Oper} {N : (Nat → Value) → World → Prop} {R : Rest}
def Qme (P : Program) (n : Nat) (l : List Oper) (D : Nat → Nat) (Vl : Nat → Nat → Value) (Ob : Nat → Obj) (a : Nat) : Prop :=
 ∃ o, l[a]? = some o ∧ o.dst = some (D a) ∧ Nat.blt (D a) n = true ∧ o.guard = none ∧ ∀ (fr : Nat → Value) (R : Rest) (w : World) (H : List (Nat × Obj)), Mem w R H → Wu P fr w o.op o.type (fun v w' => ∃ b, v = Vl a b ∧ Mem w' R ((b, Ob a) :: H))
def FE (P : Program) (n : Nat) (l : List Oper) (D : Nat → Nat) (Vl : Nat → Nat → Value) (Ob : Nat → Obj) (R : Rest) (Fin : (Nat → Value) → List (Nat × Obj) → Prop) : List (Nat × Nat) → (Nat → Value) → List (Nat × Obj) → Prop
 | [], fr, H => Fin fr H
 | (a, 0) :: E, fr, H => ∀ b, FE P n l D Vl Ob R Fin E (upd fr (D a) (Vl a b)) ((b, Ob a) :: H)
 | (e, 1) :: E, fr, H => ∃ o, l[e]? = some o ∧ (∀ d, o.dst = some d → d < n) ∧ o.guard = none ∧ ∀ RX : Rest, (∀ b x, R.blk b = some x → RX.blk b = some x) → ∀ w, Mem w RX H → Wu P fr w o.op o.type (fun v w' => ∃ H', Mem w' RX H' ∧ FE P n l D Vl Ob R Fin E (Cj fr o.dst v) H')
 | (e, _ + 2) :: E, fr, H => ∃ o, l[e]? = some o ∧ (∀ d, o.dst = some d → d < n) ∧ o.guard = none ∧ ∃ x, (∀ w H, Mem w R H → Wu P fr w o.op o.type (fun v w' => v = x ∧ Ext w w')) ∧ FE P n l D Vl Ob R Fin E (Cj fr o.dst x) H
def Qa5 (l : List Oper) (D : Nat → Nat) (A UF : List Nat) : Nat → List (Nat × Bool) → List (Nat × Nat) → List Nat → Bool
 | 0, s, E, U => s.isEmpty && E.isEmpty && U == UF
 | k + 1, s, E, U => match E with
  | (a, 0) :: E' => if U.contains a then Qa5 l D A UF k s E' (U.erase a) else (match s with | (i, true) :: s' => A.contains i && (U.all fun q => !Nat.beq (D q) (D i)) && Qa5 l D A UF k s' E (i :: U) | _ => false)
  | (e, 1) :: E' => (match s with
   | (i, true) :: s' => if A.contains i then (U.all fun q => !Nat.beq (D q) (D i)) && Qa5 l D A UF k s' E (i :: U) else Nat.beq e i && (match l[e]? with | some o => (U.all fun q => !(G6 l o).contains (D q) && !(o.dst.toList.contains (D q))) | none => false) && Qa5 l D A UF k s' E' U
   | _ => false)
  | (e, _ + 2) :: E' => (match s with
   | (i, true) :: s' => A.contains i && (U.all fun q => !Nat.beq (D q) (D i)) && Qa5 l D A UF k s' E (i :: U)
   | (i, false) :: s' => Nat.beq e i && (match l[e]? with | some o => (U.all fun q => !(G6 l o).contains (D q) && !(o.dst.toList.contains (D q))) | none => false) && Qa5 l D A UF k s' E' U
   | _ => false)
  | [] => (match s with | (i, true) :: s' => A.contains i && (U.all fun q => !Nat.beq (D q) (D i)) && Qa5 l D A UF k s' E (i :: U) | (_, false) :: _ => false | [] => U == UF)
variable {D : Nat → Nat} {Vl : Nat → Nat → Value} {Ob : Nat → Obj} {Fin : (Nat → Value) → List (Nat × Obj) → Prop} {A UF : List Nat} {tail : List Oper} {r2 : List (Nat × Bool)}
def insQ (eL : Nat) (E : List (Nat × Nat)) (s : List Nat) : List (Nat × Bool) :=
 s.flatMap fun i => (i, true) :: if Nat.beq i eL then (E.filter fun p => Nat.beq p.2 2).map fun p => (p.1, false) else []
def blkU (Ob : Nat → Obj) (U : List (Nat × Nat)) : List (Nat × Obj) := U.map fun p => (p.2, Ob p.1)
theorem dwq {o : Oper} {i : Nat} {r : List (Nat × Bool)} {g : Nat → Value} {w0 : World} {v : Value} (ho : l[i]? = some o) (hd : ∀ d, o.dst = some d → d < n) (hg : o.guard = none) (h : ∀ w H, Mem w R H → Wu P g w o.op o.type fun v' w' => v' = v ∧ Ext w w') (k : DW P n l tail N (KR R) r (Cj g o.dst v) w0) : DW P n l tail N (KR R) ((i, false) :: r) g w0 := by
 obtain ⟨dst, op, ty, pos, aft, gu⟩ := o
 cases hg
 exact ⟨_, ho, hd, v, fun w hw => h w hw.choose hw.choose_spec, k⟩
theorem fe_run (hA : ∀ a ∈ A, Qme P n l D Vl Ob a)
  (hfin : ∀ fr H g (U : List (Nat × Nat)) w, Fin fr H → U.map (·.1) = UF → (∀ t, (∀ p ∈ U, D p.1 ≠ t) → g t = fr t) → (∀ p ∈ U, g (D p.1) = Vl p.1 p.2) → Mem w R (H ++ blkU Ob U) → DW P n l tail N (KR R) r2 g w) :
  ∀ (k : Nat) (s : List (Nat × Bool)) (E : List (Nat × Nat)) (U : List (Nat × Nat)) (fr g : Nat → Value) (H : List (Nat × Obj)) (w : World), Qa5 l D A UF k s E (U.map (·.1)) = true → FE P n l D Vl Ob R Fin E fr H → Mem w R (H ++ blkU Ob U) →
   (∀ t, (∀ p ∈ U, D p.1 ≠ t) → g t = fr t) → (∀ p ∈ U, g (D p.1) = Vl p.1 p.2) → (U.map (·.1)).Nodup → (∀ p ∈ U, ∀ q ∈ U, D p.1 = D q.1 → p.1 = q.1) → DW P n l tail N (KR R) (s ++ r2) g w := by
 intro k
 induction k with
 | zero =>
  intro s E U fr g H w hw hE hm hg hv _ _
  simp only [Qa5, Bool.and_eq_true, List.isEmpty_iff, beq_iff_eq] at hw
  obtain ⟨⟨rfl, rfl⟩, hU⟩ := hw
  exact hfin fr H g U w hE hU hg hv hm
 | succ k ih =>
  have free : ∀ (i : Nat) (s : List (Nat × Bool)) (E : List (Nat × Nat)) (U : List (Nat × Nat)) (fr g : Nat → Value) (H : List (Nat × Obj)) (w : World), i ∈ A → (∀ q ∈ U, D q.1 ≠ D i) → Qa5 l D A UF k s E (i :: U.map (·.1)) = true → FE P n l D Vl Ob R Fin E fr H → Mem w R (H ++ blkU Ob U) →
    (∀ t, (∀ p ∈ U, D p.1 ≠ t) → g t = fr t) → (∀ p ∈ U, g (D p.1) = Vl p.1 p.2) → (U.map (·.1)).Nodup → (∀ p ∈ U, ∀ q ∈ U, D p.1 = D q.1 → p.1 = q.1) → DW P n l tail N (KR R) ((i, true) :: (s ++ r2)) g w := by
   intro i s E U fr g H w hi hq hw hE hm hg hv hn hd
   obtain ⟨o, ho, hdst, hlt, hgu, hop⟩ := hA i hi
   refine ⟨o, ho, fun d hd' => by rw [hdst] at hd'; cases hd'; exact Nat.le_of_ble_eq_true hlt, fun w' he => ?_⟩
   simp only [Uc, hgu]
   refine (hop g R w' _ (hm.ext he)).mono ?_
   rintro v w2 ⟨b, rfl, m2⟩
   have m3 : Mem w2 R (H ++ blkU Ob ((i, b) :: U)) := m2.perm (by simp only [blkU, List.map_cons]; exact List.perm_middle)
   refine ⟨KR R, ⟨_, m3⟩, Pz R, fun _ h => h, ?_⟩
   rw [hdst]
   refine ih s E ((i, b) :: U) fr _ H w2 (by simpa using hw) hE m3 ?_ ?_ ?_ ?_
   ·intro t ht
    rw [show Cj g (some (D i)) (Vl i b) t = g t from Ag _ _ (ht (i, b) Ya).symm]
    exact hg t fun p hp => ht p (by simp [hp])
   ·intro p hp
    rcases List.mem_cons.1 hp with rfl | hp
    ·exact Be _ _ _
    rw [show Cj g (some (D i)) (Vl i b) (D p.1) = g (D p.1) from Ag _ _ (hq p hp)]
    exact hv p hp
   ·rw [List.map_cons, List.nodup_cons]
    refine ⟨fun hm => ?_, hn⟩
    obtain ⟨p, hp, hpe⟩ := List.mem_map.1 hm
    exact hq p hp (by rw [hpe])
   intro p hp q hq'
   rcases List.mem_cons.1 hp with rfl | hp <;> rcases List.mem_cons.1 hq' with rfl | hq'
   ·intro _; rfl
   ·intro e; exact absurd e.symm (hq q hq')
   ·intro e; exact absurd e (hq p hp)
   exact hd p hp q hq'
  have nall : ∀ {U : List (Nat × Nat)} {i : Nat}, ((U.map (·.1)).all fun q => !Nat.beq (D q) (D i)) = true → ∀ q ∈ U, D q.1 ≠ D i := by
   intro U i h q hq e
   have := List.all_eq_true.1 h q.1 (List.mem_map.2 ⟨q, hq, rfl⟩)
   rw [e, Nat.beq_refl] at this
   cases this
  have apart : ∀ {U : List (Nat × Nat)} {o : Oper}, ((U.map (·.1)).all fun q => !(G6 l o).contains (D q) && !(o.dst.toList.contains (D q))) = true → ∀ p ∈ U, D p.1 ∉ G6 l o ∧ ∀ d, o.dst = some d → d ≠ D p.1 := by
   intro U o h2 p hp
   have := List.all_eq_true.1 h2 p.1 (List.mem_map.2 ⟨p, hp, rfl⟩)
   simp only [Bool.and_eq_true, Bool.not_eq_true'] at this
   refine ⟨fun hx => ?_, fun d hdd heq => ?_⟩
   ·rw [List.contains_iff_mem.2 hx] at this; cases this.1
   rw [hdd, heq] at this; simp at this
  have carry : ∀ {U : List (Nat × Nat)} {o : Oper} {fr g : Nat → Value} {v : Value}, (∀ t, (∀ p ∈ U, D p.1 ≠ t) → g t = fr t) → ∀ t, (∀ p ∈ U, D p.1 ≠ t) → Cj g o.dst v t = Cj fr o.dst v t := by
   intro U o fr g v hg t ht
   cases hdst : o.dst with
   | none => exact hg t ht
   | some d =>
    by_cases e : t = d
    ·subst e; show upd g t v t = upd fr t v t; rw [Be, Be]
    show upd g d v t = upd fr d v t; rw [Ag _ _ e, Ag _ _ e]; exact hg t ht
  have carryV : ∀ {U : List (Nat × Nat)} {o : Oper} {g : Nat → Value} {v : Value}, (∀ p ∈ U, D p.1 ∉ G6 l o ∧ ∀ d, o.dst = some d → d ≠ D p.1) → (∀ p ∈ U, g (D p.1) = Vl p.1 p.2) → ∀ p ∈ U, Cj g o.dst v (D p.1) = Vl p.1 p.2 := by
   intro U o g v hap hv p hp
   rw [show Cj g o.dst v (D p.1) = g (D p.1) from Qaj (ns := [D p.1]) (fun x hx hm => (hap p hp).2 x hx (by simpa using hm)) _ Ya]
   exact hv p hp
  intro s E U fr g H w hw hE hm hg hv hn hd
  match E, hE, hw with
  | (a, 0) :: E, hE, hw =>
   simp only [Qa5] at hw
   by_cases hc : (U.map (·.1)).contains a = true
   ·rw [if_pos hc] at hw
    obtain ⟨p, hp, hpa⟩ := List.mem_map.1 (List.contains_iff_mem.1 hc)
    obtain ⟨a', b⟩ := p
    simp only at hpa
    subst hpa
    have hUp : U.Perm ((a', b) :: U.erase (a', b)) := List.perm_cons_erase hp
    have hmap : (U.erase (a', b)).map (·.1) = (U.map (·.1)).erase a' := by
     obtain ⟨U1, U2, hnot, hU, hUe⟩ := List.exists_erase_eq hp
     rw [hUe, hU, List.map_append, List.map_append, List.map_cons, List.erase_append_right, List.erase_cons_head]
     intro hx
     obtain ⟨q, hq, hqe⟩ := List.mem_map.1 hx
     rw [hU, List.map_append, List.map_cons, List.nodup_append] at hn
     exact hn.2.2 q.1 (List.mem_map.2 ⟨q, hq, rfl⟩) a' Ya hqe
    have hsub : ∀ q ∈ U.erase (a', b), q ∈ U := fun q hq => List.mem_of_mem_erase hq
    have hne : ∀ q ∈ U.erase (a', b), D q.1 ≠ D a' := by
     intro q hq e
     have h1 := hd q (hsub q hq) (a', b) hp e
     have h2 : ((a', b) :: U.erase (a', b)).map (·.1) |>.Nodup := ((hUp.map _).nodup_iff).1 hn
     rw [List.map_cons, List.nodup_cons] at h2
     exact h2.1 (List.mem_map.2 ⟨q, hq, h1⟩)
    refine ih s E (U.erase (a', b)) (upd fr (D a') (Vl a' b)) g ((b, Ob a') :: H) w (by rw [hmap]; exact hw) (hE b) ?_ ?_ ?_ ?_ ?_
    ·refine hm.perm ?_
     have : (H ++ blkU Ob U).Perm (H ++ ((b, Ob a') :: blkU Ob (U.erase (a', b)))) := List.Perm.append_left _ (hUp.map _)
     exact (this.trans List.perm_middle).symm
    ·intro t ht
     by_cases e : t = D a'
     ·rw [e, Be]; exact hv _ hp
     rw [Ag _ _ e]
     refine hg t fun p hp' => ?_
     rcases List.mem_cons.1 (hUp.subset hp') with rfl | h
     ·exact fun h => e h.symm
     exact ht p h
    ·exact fun q hq => hv q (hsub q hq)
    ·rw [hmap]; exact hn.erase _
    exact fun p hp' q hq => hd p (hsub p hp') q (hsub q hq)
   rw [if_neg hc] at hw
   match s, hw with
   | (i, true) :: s, hw =>
    simp only [Bool.and_eq_true] at hw
    exact free i s ((a, 0) :: E) U fr g H w (List.contains_iff_mem.1 hw.1.1) (nall hw.1.2) hw.2 hE hm hg hv hn hd
  | [], hE, hw =>
   match s, hw with
   | [], hw =>
    simp only [Qa5, beq_iff_eq] at hw
    exact hfin fr H g U w hE hw hg hv hm
   | (_, false) :: _, hw => simp [Qa5] at hw
   | (i, true) :: s, hw =>
    simp only [Qa5, Bool.and_eq_true] at hw
    exact free i s [] U fr g H w (List.contains_iff_mem.1 hw.1.1) (nall hw.1.2) hw.2 hE hm hg hv hn hd
  | (e, 1) :: E, hE, hw =>
   match s, hw with
   | [], hw => simp [Qa5] at hw
   | (_, false) :: _, hw => simp [Qa5] at hw
   | (i, true) :: s, hw =>
    simp only [Qa5] at hw
    by_cases hi : A.contains i = true
    ·rw [if_pos hi, Bool.and_eq_true] at hw
     exact free i s ((e, 1) :: E) U fr g H w (List.contains_iff_mem.1 hi) (nall hw.1) hw.2 hE hm hg hv hn hd
    rw [if_neg hi] at hw
    obtain ⟨o, ho, hdn, hgu, hop⟩ := hE
    simp only [ho, Bool.and_eq_true] at hw
    obtain ⟨⟨h1, h2⟩, h3⟩ := hw
    have hei : e = i := Nat.eq_of_beq_eq_true h1
    subst hei
    refine ⟨o, ho, hdn, fun w' he => ?_⟩
    simp only [Uc, hgu]
    have hm' := hm.ext he
    have hap := apart h2
    have hop' := (hop (R.add (blkU Ob U)) (fun b x e => Mem.addRest hm' e) w' (Mem.give hm')).frame (l := l) (fr' := g) fun t ht => (hg t fun p hp e => (hap p hp).1 (e ▸ ht)).symm
    refine hop'.mono ?_
    rintro v w2 ⟨H', m2, hE'⟩
    have m3 : Mem w2 R (H' ++ blkU Ob U) := Mem.back hm' m2
    exact ⟨KR R, ⟨_, m3⟩, Pz R, fun _ h => h, ih s E U _ _ H' w2 h3 hE' m3 (carry hg) (carryV hap hv) hn hd⟩
  | (e, _ + 2) :: E, hE, hw =>
   match s, hw with
   | [], hw => simp [Qa5] at hw
   | (i, true) :: s, hw =>
    simp only [Qa5, Bool.and_eq_true] at hw
    exact free i s _ U fr g H w (List.contains_iff_mem.1 hw.1.1) (nall hw.1.2) hw.2 hE hm hg hv hn hd
   | (i, false) :: s, hw =>
    simp only [Qa5] at hw
    obtain ⟨o, ho, hdn, hgu, x, hop, hE'⟩ := hE
    simp only [ho, Bool.and_eq_true] at hw
    obtain ⟨⟨h1, h2⟩, h3⟩ := hw
    have hei : e = i := Nat.eq_of_beq_eq_true h1
    subst hei
    have hap := apart h2
    exact dwq ho hdn hgu (fun w H hmm => (hop w H hmm).frame (l := l) (fr' := g) fun t ht => (hg t fun p hp e => (hap p hp).1 (e ▸ ht)).symm) (ih s E U _ _ H w h3 hE' hm (carry hg) (carryV hap hv) hn hd)
theorem re_free {fr : Nat → Value} {w : World} {H0 : List (Nat × Obj)} (A : List Nat) (a0 eL : Nat) (E : List (Nat × Nat)) (r r2 : List (Nat × Bool)) (k : Nat) (D : Nat → Nat) (Vl : Nat → Nat → Value) (Ob : Nat → Obj) (J : (Nat → Value) → Prop) (hm : Mem w R H0) (hA : ∀ a ∈ A, Qme P n l D Vl Ob a)
  (hq : ∀ s, (∀ g, J g → DW P n l (l.drop k) N (KR R) s g w) → DW P n l (l.drop k) N (KR R) (r ++ s) fr w)
  (h : ∀ g0, J g0 → FE P n l D Vl Ob R (fun fr H => ∀ b w, Mem w R (H ++ [(b, Ob a0)]) → DW P n l (l.drop k) N (KR R) r2 (upd fr (D a0) (Vl a0 b)) w) E g0 H0)
  (F : List Nat) (hll : le.length = l.length := by rfl) (hF : F.Nodup := by decide) (hlt : F.all (fun a => Nat.blt a le.length) = true := by kernel_rfl)
  (hp : (Aw F).all (fun s => Qg8 (Qab le) s || (Dl l (D8 s le) (r ++ (insQ eL E s ++ r2)) k && Qa5 l D A [a0] (s.length + E.length) (insQ eL E s) E [])) = true := by kernel_rfl) : Ph P n l le N fr w := by
 refine re_permC F hll hF (fun a ha => Nat.le_of_ble_eq_true (List.all_eq_true.1 hlt a ha)) fun π hπ hb => ?_
 have hplan := List.all_eq_true.1 hp π (Qcg F π hπ)
 rw [hb, Bool.false_or, Bool.and_eq_true] at hplan
 refine Qfq (KR R) (Pz R) ⟨_, hm⟩ _ k (by rw [Td, hll]) hplan.1 (hq _ fun g0 hJ => ?_)
 refine fe_run (UF := [a0]) hA ?_ _ (insQ eL E π) E [] g0 g0 H0 w hplan.2 (h g0 hJ) (by simpa [blkU] using hm) (fun _ _ => rfl) Ya Ya Ya
 intro fr H g U w' hfin hU hg hv hm'
 match U, hU with
 | [(a, b)], hU =>
  have ha : a = a0 := by simpa using hU
  subst ha
  have hge : g = upd fr (D a) (Vl a b) := by
   funext t
   by_cases e : t = D a
   ·rw [e, Be]; exact hv (a, b) Ya
   rw [Ag _ _ e]; exact hg t fun p hp => by rw [List.mem_singleton.1 hp]; exact fun h => e h.symm
  rw [hge]
  exact hfin b w' hm'
def Qgw (P : Program) (n : Nat) (l : List Oper) (a d : Nat) (v : Nat → Value) (ob : Obj) : Prop :=
 ∃ o, l[a]? = some o ∧ o.dst = some d ∧ Nat.blt d n = true ∧ o.guard = none ∧ ∀ (fr : Nat → Value) (R : Rest) (w : World) (H : List (Nat × Obj)), Mem w R H → Wu P fr w o.op o.type (fun x w' => ∃ b, x = v b ∧ Mem w' R ((b, ob) :: H))
def FE2 (P : Program) (n : Nat) (l : List Oper) (d : Nat) (v : Nat → Value) (ob : Obj) (R : Rest) (Fin : (Nat → Value) → List (Nat × Obj) → Prop) : List (Nat × Nat) → (Nat → Value) → List (Nat × Obj) → Prop
 | [], fr, H => Fin fr H
 | (_, 0) :: E, fr, H => ∀ b, FE2 P n l d v ob R Fin E (upd fr d (v b)) ((b, ob) :: H)
 | (e, 1) :: E, fr, H => ∃ o, l[e]? = some o ∧ (∀ d, o.dst = some d → d < n) ∧ o.guard = none ∧ ∀ RX : Rest, (∀ b x, R.blk b = some x → RX.blk b = some x) → ∀ w, Mem w RX H → Wu P fr w o.op o.type (fun x w' => ∃ H', Mem w' RX H' ∧ FE2 P n l d v ob R Fin E (Cj fr o.dst x) H')
 | (e, _ + 2) :: E, fr, H => ∃ o, l[e]? = some o ∧ (∀ d, o.dst = some d → d < n) ∧ o.guard = none ∧ ∃ x, (∀ w H, Mem w R H → Wu P fr w o.op o.type (fun v w' => v = x ∧ Ext w w')) ∧ FE2 P n l d v ob R Fin E (Cj fr o.dst x) H
theorem fe_of {a d : Nat} {v : Nat → Value} {ob : Obj} {F2 : (Nat → Value) → List (Nat × Obj) → Prop} (e1 : D a = d) (e2 : ∀ b, Vl a b = v b) (e3 : Ob a = ob) (hF : ∀ fr H, F2 fr H → Fin fr H) : ∀ (E : List (Nat × Nat)) (fr : Nat → Value) (H : List (Nat × Obj)), (E.all fun p => !Nat.beq p.2 0 || Nat.beq p.1 a) = true → FE2 P n l d v ob R F2 E fr H → FE P n l D Vl Ob R Fin E fr H
 | [], fr, H, _, h => hF fr H h
 | (x, 0) :: E, fr, H, hp, h => by
  simp only [List.all_cons, Bool.and_eq_true] at hp
  have hx : x = a := Nat.eq_of_beq_eq_true (by simpa using hp.1)
  subst hx
  intro b
  rw [e1, e2, e3]
  exact fe_of e1 e2 e3 hF E _ _ hp.2 (h b)
 | (e, 1) :: E, fr, H, hp, ⟨o, h1, h2, h3, h4⟩ => ⟨o, h1, h2, h3, fun RX hX w hm => (h4 RX hX w hm).mono fun x w' ⟨H', hm', hE⟩ => ⟨H', hm', fe_of e1 e2 e3 hF E _ _ (by simp only [List.all_cons, Bool.and_eq_true] at hp; exact hp.2) hE⟩⟩
 | (e, _ + 2) :: E, fr, H, hp, ⟨o, h1, h2, h3, x, h4, hE⟩ => ⟨o, h1, h2, h3, x, h4, fe_of e1 e2 e3 hF E _ _ (by simp only [List.all_cons, Bool.and_eq_true] at hp; exact hp.2) hE⟩
theorem re_free2 {fr g0 : Nat → Value} {w : World} {H0 : List (Nat × Obj)} {d d0 : Nat} {v v0 : Nat → Value} {ob o0 : Obj} (a a0 eL : Nat) (E : List (Nat × Nat)) (r r2 : List (Nat × Bool)) (k : Nat) (F : List Nat) (hm : Mem w R H0) (hA : Qgw P n l a d v ob) (hA0 : Qgw P n l a0 d0 v0 o0)
  (hq : ∀ s, DW P n l (l.drop k) N (KR R) s g0 w → DW P n l (l.drop k) N (KR R) (r ++ s) fr w)
  (h : FE2 P n l d v ob R (fun fr H => ∀ b w, Mem w R (H ++ [(b, o0)]) → DW P n l (l.drop k) N (KR R) r2 (upd fr d0 (v0 b)) w) E g0 H0)
  (hE : (E.all fun p => !Nat.beq p.2 0 || Nat.beq p.1 a) = true := by kernel_rfl) (haa : Nat.beq a0 a = false := by rfl) (hll : le.length = l.length := by rfl) (hF : F.Nodup := by decide) (hlt : F.all (fun a => Nat.blt a le.length) = true := by kernel_rfl)
  (hp : (Aw F).all (fun s => Qg8 (Qab le) s || (Dl l (D8 s le) (r ++ (insQ eL E s ++ r2)) k && Qa5 l (fun x => if x = a then d else d0) [a, a0] [a0] (s.length + E.length) (insQ eL E s) E [])) = true := by kernel_rfl) : Ph P n l le N fr w := by
 have hne : a0 ≠ a := Nat.ne_of_beq_eq_false haa
 refine re_free (D := fun x => if x = a then d else d0) (Vl := fun x => if x = a then v else v0) (Ob := fun x => if x = a then ob else o0) [a, a0] a0 eL E r r2 k (· = g0) hm ?_ (fun s hs => hq s (hs g0 rfl)) ?_ F hll hF hlt hp
 ·intro x hx
  rcases List.mem_cons.1 hx with rfl | hx
  ·simpa [Qme, Qgw] using hA
  rw [List.mem_singleton.1 hx]
  simpa [Qme, Qgw, hne] using hA0
 rintro _ rfl
 have e2 : ∀ b, (fun x => if x = a then v else v0) a b = v b := fun b => congrFun (if_pos rfl) b
 refine fe_of (D := fun x => if x = a then d else d0) (Vl := fun x => if x = a then v else v0) (Ob := fun x => if x = a then ob else o0) (if_pos rfl) e2 (if_pos rfl) ?_ E _ H0 hE h
 intro fr H hh b w hm
 simp only [if_neg hne] at hm ⊢
 exact hh b w hm
variable {d' : Nat} {v' : Nat → Value} {ob' : Obj}
theorem fe_c {d : Nat} {e : Nat} {E : List (Nat × Nat)} {fr : Nat → Value} {H : List (Nat × Obj)} {op : Op} {ty : TypeId} {pos : String} {aft : Array Edge} (ho : l[e]? = some ⟨some d, op, ty, pos, aft, none⟩) (hd : Nat.blt d n = true)
  (h : ∀ RX : Rest, (∀ b x, R.blk b = some x → RX.blk b = some x) → ∀ w, Mem w RX H → Wu P fr w op ty (fun v w' => ∃ H', Mem w' RX H' ∧ FE2 P n l d' v' ob' R Fin E (upd fr d v) H')) : FE2 P n l d' v' ob' R Fin ((e, 1) :: E) fr H := ⟨_, ho, Ar hd, rfl, h⟩
theorem fe_q {d : Nat} {e : Nat} {E : List (Nat × Nat)} {fr : Nat → Value} {H : List (Nat × Obj)} {op : Op} {ty : TypeId} {pos : String} {aft : Array Edge} {v : Value} (ho : l[e]? = some ⟨some d, op, ty, pos, aft, none⟩) (hd : Nat.blt d n = true)
  (h : ∀ w H, Mem w R H → Jy P fr w op ty v) (k : FE2 P n l d' v' ob' R Fin E (upd fr d v) H) : FE2 P n l d' v' ob' R Fin ((e, 2) :: E) fr H := ⟨_, ho, Ar hd, rfl, v, fun w H hm => (h w H hm).opR.mono (by rintro _ _ ⟨rfl, rfl⟩; exact ⟨rfl, Ext.refl _⟩), k⟩
theorem fe_f {a : Nat} {E : List (Nat × Nat)} {fr : Nat → Value} {H : List (Nat × Obj)} (h : ∀ b, FE2 P n l d' v' ob' R Fin E (upd fr d' (v' b)) ((b, ob') :: H)) : FE2 P n l d' v' ob' R Fin ((a, 0) :: E) fr H := h
theorem fe_z {fr : Nat → Value} {H : List (Nat × Obj)} (h : Fin fr H) : FE2 P n l d' v' ob' R Fin [] fr H := h
theorem fo_alloc {a d : Nat} {T : TypeId} {cs : Array Value} {ty : TypeId} {pos : String} {aft : Array Edge} {m kb : Nat} (ho : l[a]? = some ⟨some d, .alloc T, ty, pos, aft, none⟩) (hd : Nat.blt d n = true) (hz : Jh P T = some (some (.agg cs), m, kb)) : Qgw P n l a d (fun b => ptr b 0) (.cells cs T (0, 0)) := by
 refine ⟨_, ho, rfl, hd, rfl, fun fr R w H hm => (Jw hm hz).mono ?_⟩
 rintro _ w2 ⟨b, rfl, _, m2⟩
 exact ⟨b, rfl, m2⟩
theorem fo_build {a d : Nat} {T ET : TypeId} {ty : TypeId} {pos : String} {aft : Array Edge} {α : Type} {zv : Value} {kb : Nat} (f : α → Value) (hf : ∀ a, (f a).oneCell' = true) (ho : l[a]? = some ⟨some d, .buildSlice T 0 #[], ty, pos, aft, none⟩) (hd : Nat.blt d n = true) (hu : P.underlying T = some (.slice ET)) (hi : Jh P ET = some (some zv, 1, kb)) : Qgw P n l a d (fun b => Wp b 0 0 0) (.cells (cl f []) ET (0, 0)) := by
 refine ⟨_, ho, rfl, hd, rfl, fun fr R w H hm => (Qq (parts := []) f [] hf hm hu hi rfl (by simp [Ce]) rfl).mono ?_⟩
 rintro _ w2 ⟨b, rfl, _, m2⟩
 exact ⟨b, rfl, m2⟩
end
attribute [local irreducible] Qee Pq Wn Dh Yc Jf Qaz Wh Vb Kz Xj Lc Ef Xr Yu V5 Ac Ai P7 Xe hdR hdE V9 Qaw Qbd Pi Qcf Qbz Jp
attribute [local irreducible] Tv Dk Qb7 Tz Qg4 Qjs Qjr encK P9 Ea
set_option maxHeartbeats 2000000 in
theorem Qpw  (w0 : World)  (hT : Tabs (Y8 w0)) : X0 prog 9 #[] w0 (fun r w1 => r = (bl true) ∧ Ext w0 w1) := by
 refine Qy (args := []) func9 rfl ntmps9 results9 rfl ?_
 have m0 : Mem w0 (Qr w0) [] := Mem.of_world w0
 have hc1 := Ba ([1#8] ++ List.replicate 31 0#8) V5
 refine sR <| Zx (bl false) ?_
 refine rN (sR ?_)
 refine Qd (Gs (c := (cl u8 ((Et 1#8)))) Zg Xl Yw (Jq (i := 0) (v := (u8 1#8)) (cs := #[(u8 1#8)]) rfl rfl Vq) Xo) <| U3 m0 (oc27 (Jv rfl) (c_new5 _ _ sL)) fun w1 m1 => Y9 (Jw m1 ti39) fun w3 b1 m3 => Vf (Ux [((Et 1#8)).map u8, (Xr ((Et 1#8)) V5).map u8] ti39 rfl rfl (Bc (n := 32) (m := 32) (k := 64) (by first | rfl | (rw [List.length_map]; first | omega | (simp; done) | (simp; omega))) (Bc (n := 32) (m := 0) (k := 32) (by first | rfl | (rw [List.length_map]; first | omega | (simp; done) | (simp; omega))) Qe4 rfl) rfl) (Yl (Jj Qs _) (Yl (Jj Qs _) Uw)) m3.h0 rfl rfl) ?_
 rintro _ w4 uq4
 have m4 : Mem _ _ [(b1, .cells (Qz [((Et 1#8)).map u8, (Xr ((Et 1#8)) V5).map u8]) 39 (0, 0))] := m3.upd0 uq4
 refine rN (sR ?_)
 refine Qd (Gs (c := (cl u8 ((Et 5#8)))) Zg Xl Yw (Jq (i := 0) (v := (u8 5#8)) (cs := #[(u8 5#8)]) rfl rfl Vq) Xo) <| Qd (J7 uT39 ti39 rfl m4.h0) <| U3 m4 (oc18 (Xm rfl rfl) (Qsk _ _ _ _ sL sL sL)) fun w5 m5 => Y9 (Jw m5 J6) fun w7 b2 m7 => Ye m7 (Kt J6 rfl rfl m7.h0 (Fa rfl)) fun w8 m8 => ?_
 refine rN (sR ?_)
 refine Qd (J7 Xt J6 rfl m8.h0) <| Vw (oc12 (Ci rfl rfl rfl) (c_encS (Ea ((Et 5#8)) ((Et 1#8))) Wl Wl ([]) Wl ([]) _ (hT.mono fun b o e => (m8).rest b o e) (RdK.nilE Ya) sL (Rd.nil _ _) sL (Rd.nil _ _) sL sL sL)) ?_
 rintro _ w9 ⟨vqq10, Hqq10, vcq10, Hcq10, rfl, gqq10, gcq10, k_w9⟩
 have m9 : Mem w9 (Qr w0) (Hqq10 ++ (Hcq10 ++ ([(b2, .cells (Qz (sS (Ea ((Et 5#8)) ((Et 1#8))) Wl)) 26 (0, 0)), (b1, .cells (Qz [((Et 1#8)).map u8, (Xr ((Et 1#8)) V5).map u8]) 39 (0, 0))]))) := ymA (Mem.new (H := [(b2, .cells (Qz (sS (Ea ((Et 5#8)) ((Et 1#8))) Wl)) 26 (0, 0)), (b1, .cells (Qz [((Et 1#8)).map u8, (Xr ((Et 1#8)) V5).map u8]) 39 (0, 0))]) (H' := _) m8 k_w9)
 refine Yb rfl <| Qd (Zr rfl rfl) <| Qd (v := vcq10) (Zr rfl rfl) <| Qd (v := (i64 (Tv (Ea ((Et 5#8)) ((Et 1#8)))))) (Zr rfl rfl) <| Y9 (Jw m9 J6) fun w11 b3 m11 => Ye m11 (Kt J6 rfl rfl m11.h0 (Fa (RdK.one (RdK.ite (fun h => RdK.cast (gqq10.rd (Mem.pick [_] Hqq10 _ m11)) (enc_kt h)) (fun h => RdK.cast (RdK.nilE Ya) (enc_kf h)))))) fun w12 m12 => Zx vcq10 <| yqA rfl <| rN ?_
 have m13 := Mem.drop [_] _ m12
 have m14 := Mem.drop Hqq10 _ m13
 refine sR <| Qd (Gs (c := (cl u8 ((Et 5#8)))) Zg Xl Yw (Jq (i := 0) (v := (u8 5#8)) (cs := #[(u8 5#8)]) rfl rfl Vq) Xo) <| Qd (J7 uT39 ti39 rfl ((Mem.pick2 Hcq10 [_] [_] _ m14)).h0) <| Qd (Zi (r := 32) uT39 rfl Je Zg rfl rfl) <| Qd (Jk 1 Xl Zg rfl ((Mem.pick2 Hcq10 [_] [_] _ m14)).h0 rfl) <| U3 m14 (oc16 (Ci rfl rfl rfl) (c_firstS _ _ _ _ _ (hT.mono fun b o e => (m14).rest b o e) sL sL sL sL)) fun w15 m15 => Y9 (Qq u8 [1#8] Qs m15 Zo Yw rfl rfl rfl) fun w17 b26 m17 => Vw (oc12 (Ci rfl rfl rfl) (c_encS (P9 ((Et 5#8)) ((Et 1#8)) (Xr ((Et 1#8)) V5)) Wl Wl ([]) (Wp b26 0 1 1) ([1#8]) _ (hT.mono fun b o e => (m17).rest b o e) (RdK.nilE Ya) sL (Rd.nil _ _) sL (Rd.mkA m17.h0) sL sL sL)) ?_
 rintro _ w18 ⟨vqq19, Hqq19, vcq19, Hcq19, rfl, gqq19, gcq19, k_w18⟩
 have m18 : Mem w18 (Qr w0) (Hqq19 ++ (Hcq19 ++ ([(b26, .cells (cl u8 ([1#8])) 5 (0, 0))] ++ (Hcq10 ++ ([(b2, .cells (Qz (sS (Ea ((Et 5#8)) ((Et 1#8))) Wl)) 26 (0, 0)), (b1, .cells (Qz [((Et 1#8)).map u8, (Xr ((Et 1#8)) V5).map u8]) 39 (0, 0))]))))) := ymA (Mem.new (H := [(b26, .cells (cl u8 ([1#8])) 5 (0, 0))] ++ (Hcq10 ++ ([(b2, .cells (Qz (sS (Ea ((Et 5#8)) ((Et 1#8))) Wl)) 26 (0, 0)), (b1, .cells (Qz [((Et 1#8)).map u8, (Xr ((Et 1#8)) V5).map u8]) 39 (0, 0))]))) (H' := _) m17 k_w18)
 refine Yb rfl <| Qd (Zr rfl rfl) <| Qd (v := vcq19) (Zr rfl rfl) <| Qd (Zr rfl rfl) <| Y9 (Jw m18 J6) fun w20 b6 m20 => Ye m20 (Kt J6 rfl rfl m20.h0 (Fa (RdK.one (RdK.ite (fun h => RdK.cast (gqq19.rd (Mem.pick [_] Hqq19 _ m20)) (enc_kt h)) (fun h => RdK.cast (RdK.nilE Ya) (enc_kf h)))))) fun w21 m21 => Zx vcq19 <| yqA rfl ?_
 refine rN (sR ?_)
 refine Yb rfl <| Qd (Gq (b := 13) rfl rfl) <| Yb rfl ?_
 have hd22 : ((Tv (Ea ((Et 5#8)) ((Et 1#8)))) == 13) = true := by rw [Qkw]; rfl
 refine Zj (s := 33) rfl rfl hd22 rfl (Yh (v := vcq10) rfl) <| Zj (s := 33) rfl rfl hd22 rfl (Yk (gcq10.rd (Mem.pick4 [_] Hqq19 Hcq19 [_] Hcq10 _ m21)) Zo rfl) <| Zj (s := 33) rfl rfl hd22 rfl (Gq (b := 0) rfl rfl) <| Qd (Jg rfl hd22 rfl) <| Yb rfl ?_
 have hd23 : (((Qjs (Ea ((Et 5#8)) ((Et 1#8))) ([]) ([])).length : Int) == 0) = true := by rw [second_c]; rfl
 refine Zj (s := 38) rfl rfl hd23 rfl (Yh rfl) <| Zj (s := 38) rfl rfl hd23 rfl (Gq (b := 0) rfl rfl) <| Qd (Jg rfl hd23 rfl) <| Yb rfl ?_
 have hd24 : ((Tv (P9 ((Et 5#8)) ((Et 1#8)) (Xr ((Et 1#8)) V5))) == 0) = true := by rw [Qqt]; rfl
 refine Zj (s := 42) rfl rfl hd24 rfl (Yh (v := vcq19) rfl) <| Zj (s := 42) rfl rfl hd24 rfl (Yk (gcq19.rd (Mem.pick2 [_] Hqq19 Hcq19 _ m21)) Zo rfl) <| Zj (s := 42) rfl rfl hd24 rfl (Gq (b := 73) rfl rfl) <| Qd (Jg rfl hd24 rfl) <| yqA rfl <| rN ?_
 have m25 := Mem.drop [_] _ m21
 have m26 := Mem.drop Hqq19 _ m25
 have m27 := Mem.drop [_] _ (Mem.pick Hcq19 [_] _ m26)
 refine Zz <| Qp [(bl (((Qjs (P9 ((Et 5#8)) ((Et 1#8)) (Xr ((Et 1#8)) V5)) ([]) ([1#8])).length : Int) == 73))] ⟨rfl, trivial⟩ ?_
 exact ⟨congrArg bl (by rw [Qr6]; rfl), m27.toExt⟩
set_option maxHeartbeats 2000000 in
theorem law_rdec (S : Sn) (vk : Value) (vb : Value) (lb : Z8) (vs : Value) (ls : Z8) (f : Z8) (w0 : World)  (hT : Tabs (Y8 w0)) (hk : RdK (Y8 w0) Y3 65 vk S.ks) (hkl : S.ks.length ≤ 9223372036854775807) (hrb : Rd (Y8 w0) u8 vb lb) (hlb : lb.length ≤ 9223372036854775807) (hrs : Rd (Y8 w0) u8 vs ls) (hls : ls.length ≤ 9223372036854775807) (hfl : f.length = 32) : X0 prog 5 #[(Value.agg (Qz (sS S vk))), vb, vs, (agg u8 f)] w0 (fun r w1 => r = bl true ∧ RowKit.Below w0.heap.size w0 w1) := by
 refine Qy (args := [(Value.agg (Qz (sS S vk))), vb, vs, (agg u8 f)]) func5 rfl ntmps5 results5 rfl ?_
 have m0 : Mem w0 (Qr w0) [] := Mem.of_world w0
 have hhc := (Xe ls).hc
 have hdrl := hdR_le (b := ls)
 have hdl := decP_le (S := S) (b := lb) (s := ls) (f := f)
 have hdn := decN_len (S := S) (b := lb) (s := ls) (f := f)
 refine sR <| Y9 (Us (cs := (Qz (sS S vk))) m0 rfl) fun w1 b4 m1 => Y9 (Xc (f := u8) (l := f) m1 rfl) fun w2 b7 m2 => Zx (bl false) ?_
 refine rN (Qa (sR ?_))
 refine U3 m2 (oc9 (Qoh) (Qpw _ (hT.mono fun b o e => (m2).rest b o e))) fun w3 m3 => Qd (v := (bl false)) (Gw (b := true) rfl) <| rN <| Ja rfl Jb ?_
 refine Qn (Qc (Qa (sR ?_)))
 refine Qd (J7 Xt J6 rfl m3.h1) <| Zm vb <| Zm vs <| U3 m3 (oc10 (Ci rfl rfl rfl) (c_greatS S vk vb lb vs ls _ (RdK.ofRest hk m3) sL (Rd.ofRest hrb m3) (Rd.ofRest hrs m3) sL sL)) fun w5 m5 => Zm (bl (Ac S.ks.length lb.length ls.length)) ?_
 rcases Bool.eq_false_or_eq_true (Ac S.ks.length lb.length ls.length) with hb7 | hb7
 ·
  refine Yg (s := 28) rfl rfl hb7 rfl <| Yg (s := 28) rfl rfl hb7 rfl <| Yg (s := 28) rfl rfl hb7 rfl <| Qd (Jg rfl hb7 rfl) <| rN <| Q9 rfl Jb <| sR <| Zx (bl true) ?_
  refine rN (Zz (Yv ?_))
  refine Qp [(bl true)] ⟨rfl, trivial⟩ ?_
  exact ⟨rfl, Mem.below w0 m5⟩
 ·
  obtain ⟨hgr1, hgr2, hgr3⟩ := great_of hb7
  refine Zj (s := 28) rfl rfl hb7 rfl (J7 Xt J6 rfl m5.h1) <| Qfl (s := 28) rfl rfl hb7 rfl (oc11 (Jv rfl) (Qsl S vk _ (RdK.ofRest hk m5) sL)) ?_
  rintro _ w8 ⟨rfl, e8⟩
  have m8 := m5.ext e8
  refine Zj (s := 28) rfl rfl hb7 rfl (Gw rfl) <| Qd (Yz rfl hb7 rfl) <| rN ?_
  refine Zy rfl (fun hc10 => ?_) (fun hc10 => ?_)
  ·
   have hc10n : (Qiz S) = false := by simpa using hc10
   refine sR <| Zx (bl true) ?_
   refine rN (Zz (Yv ?_))
   refine Qp [(bl true)] ⟨rfl, trivial⟩ ?_
   exact ⟨rfl, Mem.below w0 m8⟩
  ·
   have hc10n : (Qiz S) = true := by simpa using hc10
   obtain ⟨hrn1, hrn2, hrn3⟩ := Qrp hc10n
   refine Qn (Qc (sR ?_))
   refine Y9 (Qq u8 [] Qs m8 Zo Yw rfl (by simp [Ce]) rfl) fun w11 b34 m11 => Zm vs <| Vw (Xf (f := u8) (Hs := [(b34, .cells (cl u8 ([])) 5 (0, 0))]) (H := [_, _]) m11 (Z5.of u8 5 b34 ([])) rfl rfl (Rd.ofRest hrs m11) Zo Zo Yw rfl Qs sL sL) ?_
   rintro sv12 w12 ⟨Hs12, m12, g12⟩
   replace g12 : Z5 u8 5 sv12 ls Hs12 := g12
   refine Vw (oc23 (Jv rfl) (Qoc sv12 ls _ (g12.rd m12) sL)) ?_
   rintro _ w13 ⟨vrq14, Hrq14, rfl, grq14, k_w13⟩
   have m13 : Mem _ _ (Hrq14 ++ (Hs12 ++ ([_, _]))) := Mem.new (H := Hs12 ++ ([_, _])) (H' := Hrq14) m12 k_w13
   refine Yb rfl <| Qd (v := (Value.agg (Qz (sH ((Xe ls).c) ((Xe ls).p) ((Xe ls).n))))) (Zr rfl rfl) <| Qd (v := vrq14) (Zr rfl rfl) <| Qd (v := (i64 (hdE ls))) (Zr rfl rfl) <| Y9 (Jw m13 D9) fun w15 b9 m15 => Ye m15 (Kt D9 rfl rfl m15.h0 (Yl (Jj Qs _) (Yl (Xy (Zv _) Jz) (Yl (Xy (Zv _) Jz) Uw)))) fun w16 m16 => Zx vrq14 <| Zx (i64 (hdE ls)) <| rN ?_
   have m17 := Mem.drop Hs12 _ (Mem.pick2 [_] Hrq14 Hs12 _ m16)
   refine sR <| Zm vs <| Vw (oc24 (Jv rfl) (Qli vs ls _ (Rd.ofRest hrs m17) sL)) ?_
   rintro _ w18 ⟨vrq19, Hrq19, rfl, grq19, k_w18⟩
   have m18 : Mem _ _ (Hrq19 ++ ([_] ++ (Hrq14 ++ ([_, _])))) := Mem.new (H := [_] ++ (Hrq14 ++ ([_, _]))) (H' := Hrq19) m17 k_w18
   refine Yb rfl <| Qd (v := (Value.agg (Qz (sH ((Xe ls).c) ((Xe ls).p) ((Xe ls).n))))) (Zr rfl rfl) <| Qd (v := vrq19) (Zr rfl rfl) <| Qd (v := (i64 (hdE ls))) (Zr rfl rfl) <| Y9 (Jw m18 D9) fun w20 b12 m20 => Ye m20 (Kt D9 rfl rfl m20.h0 (Yl (Jj Qs _) (Yl (Xy (Zv _) Jz) (Yl (Xy (Zv _) Jz) Uw)))) fun w21 m21 => Zx vrq19 <| Zx (i64 (hdE ls)) ?_
   refine rN (Qa (sR ?_))
   refine Zm (i64 (hdE ls)) <| Zm (i64 (hdE ls)) <| Qd (We rfl rfl) <| Zm (bl ((hdE ls) != (hdE ls))) ?_
   have hd22 : ((hdE ls) != (hdE ls)) = false := Ya
   refine Zj (s := 50) rfl rfl hd22 rfl (J7 Fj D9 rfl ((Mem.pick2 [_] Hrq19 [_] _ m21)).h0) <| Zj (s := 50) rfl rfl hd22 rfl (J7 Fj D9 rfl m21.h0) <| Zj (s := 50) rfl rfl hd22 rfl (Qsc Fj Xo Jb Jb Jb rfl rfl rfl rfl rfl rfl Xl Zg Vs Yw Uu eqGuardType53 rfl rfl sL sL) <| Qd (Yz rfl hd22 rfl) <| Yb rfl ?_
   have hd23 : (((Xe ls).c) == ((Xe ls).c) && (((Xe ls).p) == ((Xe ls).p) && (((Xe ls).n) == ((Xe ls).n) && true))) = true := Ya
   have hd24 : (!(((Xe ls).c) == ((Xe ls).c) && (((Xe ls).p) == ((Xe ls).p) && (((Xe ls).n) == ((Xe ls).n) && true)))) = false := congrArg Bool.not hd23
   refine Zj (s := 55) rfl rfl hd24 rfl (Yh (v := vrq14) rfl) <| Zj (s := 55) rfl rfl hd24 rfl (Yh (v := vrq19) rfl) <| Qfl (s := 55) rfl rfl hd24 rfl (oc15 (Xm rfl rfl) (Qmu vrq14 vrq19 (hdR ls) (hdR ls) _ (grq14.rd (Mem.pick3 [_] Hrq19 [_] Hrq14 _ m21)) (grq19.rd (Mem.pick [_] Hrq19 _ m21)) sL)) ?_
   rintro _ w25 ⟨rfl, e25⟩
   have m25 := m21.ext e25
   refine Zj (s := 55) rfl rfl hd24 rfl (Gw rfl) <| Qd (Yz rfl hd24 rfl) <| rN ?_
   have hd27 : ((hdR ls) == (hdR ls)) = true := beq_self_eq_true _
   have hd28 : (!((hdR ls) == (hdR ls))) = false := congrArg Bool.not hd27
   refine Ja rfl hd28 ?_
   refine Qn (Qc (Qa ?_))
   have m29 := Mem.drop [_] _ m25
   have m30 := Mem.drop Hrq19 _ m29
   have m31 := Mem.drop [_] _ m30
   have m32 := Mem.drop Hrq14 _ m31
   refine Qb <| Qd (J7 Xt J6 rfl m32.h1) <| Y9 (Jw m32 J6) fun w33 b15 m33 => Ye m33 (Kt J6 rfl rfl m33.h0 (Fa (RdK.one (RdK.ofRest hk m33)))) fun w34 m34 => ?_
   refine rN (sR ?_)
   refine Y9 (Ei (c := #[]) m34 Wq Dj rfl Vq Xo) fun w35 b62 m35 => ?_
   have m35 : Mem w35 (Qr w0) [(b62, .cells #[] 69 (0, 0)), (b15, .cells (Qz (sS S vk)) 26 (0, 0)), (b7, .cells (cl u8 f) 23 (0, 0)), (b4, .cells (Qz (sS S vk)) 26 (0, 0))] := m35
   refine Qd (Zi (r := 165) Xt rfl Je Ec rfl rfl) <| Qd (Yi 10 Wq rfl m35.h3 rfl) <| Vw (C9 (enc := Y3) (k := 65) (Hs := [(b62, .cells #[] 69 (0, 0))]) (H := [_, _, _]) m35 (Yx.of Y3 65 69 b62 [] rfl Ya) rfl rfl (RdK.ofRest hk m35) Wq Wq Dj rfl rfl (fun a _ => Nq a) sL sL) ?_
   rintro sv36 w36 ⟨Hs36, m36, g36⟩
   replace g36 : Yx Y3 65 69 sv36 S.ks Hs36 := g36
   refine Qd (Zi (r := 165) Xt rfl Je Ec rfl rfl) <| Vf (G5 10 (sS S sv36) Ec rfl rfl g36.one ((Mem.pick Hs36 [_] _ m36)).h0 rfl rfl) ?_
   rintro _ w37 uq37
   have m37 : Mem _ _ ([_] ++ (Hs36 ++ ([_, _]))) := Mem.upd0 (Mem.pick Hs36 [_] _ m36) uq37
   refine rN (Qa ?_)
   refine H5 (J := fun g wv => ∃ (b16 : Nat) (vq : Value) (Hq : List (Nat × Obj)) (vp : Value) (Hp : List (Nat × Obj)), (Yx Y3 65 69 vq (Qg4 S lb ls f) Hq) ∧ (Z5 u8 5 vp (Qb7 S lb ls f) Hp) ∧ g 0 = (Value.agg (Qz (sS S vk))) ∧ g 1 = vb ∧ g 2 = vs ∧ g 3 = (agg u8 f) ∧ g 4 = (ptr b4 0) ∧ g 7 = (ptr b7 0) ∧ g 8 = (bl false) ∧ g 15 = (ptr b15 0) ∧ g 16 = (ptr b16 0) ∧ g 17 = vp ∧ g 18 = (i64 (Dk S lb ls f)) ∧ g 23 = (bl false) ∧ g 32 = (bl (!(Qiz S))) ∧ g 60 = (bl (!((hdR ls) == (hdR ls)))) ∧ Mem wv (Qr w0) ([(b16, .cells (Qz (sS (Tz S lb ls f) (if Dk S lb ls f = 0 then vq else vk))) 26 (0, 0))] ++ (Hq ++ (Hp ++ ([(b15, .cells (Qz (sS S sv36)) 26 (0, 0))] ++ (Hs36 ++ ([(b7, .cells (cl u8 f) 23 (0, 0)), (b4, .cells (Qz (sS S vk)) 26 (0, 0))]))))))) ?_ ?_
   ·skip
    refine J4 Xo ?_
    have hFM38 : Mem w37 (Qr w0) ([] ++ ([(b15, .cells (Qz (sS S sv36)) 26 (0, 0))] ++ (Hs36 ++ ([(b7, .cells (cl u8 f) 23 (0, 0)), (b4, .cells (Qz (sS S vk)) 26 (0, 0))])))) := m37
    obtain ⟨RM38, hRM38⟩ : ∃ R2, R2 = Rest.add (Qr w0) ([(b15, .cells (Qz (sS S sv36)) 26 (0, 0))] ++ (Hs36 ++ ([(b7, .cells (cl u8 f) 23 (0, 0)), (b4, .cells (Qz (sS S vk)) 26 (0, 0))]))) := ⟨_, rfl⟩
    have M380 : Mem w37 RM38 [] := by rw [hRM38]; exact Mem.give hFM38
    have hr39 : Rd RM38.blk u8 vb lb := by rw [hRM38]; exact Rd.mono hrb fun b o e => Mem.addRest hFM38 e
    have hr40 : Rd RM38.blk u8 vs ls := by rw [hRM38]; exact Rd.mono hrs fun b o e => Mem.addRest hFM38 e
    have hr41 : RdK RM38.blk Y3 65 vk S.ks := by rw [hRM38]; exact RdK.mono hk fun b o e => Mem.addRest hFM38 e
    have hg42 : RdK RM38.blk Y3 65 sv36 S.ks := g36.rdIn (fun p hp => by rw [hRM38]; exact Mem.addOwn hFM38 (List.mem_append_right _ (List.mem_append_left _ hp)))
    have ho43 : RM38.blk b15 = some (.cells (Qz (sS S sv36)) 26 (0, 0)) := by rw [hRM38]; exact Mem.addOwn hFM38 (List.mem_append_left _ (List.Mem.head _))
    have ho44 : RM38.blk b7 = some (.cells (cl u8 f) 23 (0, 0)) := by rw [hRM38]; exact Mem.addOwn hFM38 (List.mem_append_right _ (List.mem_append_right _ (List.Mem.head _)))
    have ho45 : RM38.blk b4 = some (.cells (Qz (sS S vk)) 26 (0, 0)) := by rw [hRM38]; exact Mem.addOwn hFM38 (List.mem_append_right _ (List.mem_append_right _ (List.Mem.tail _ (List.Mem.head _))))
    have hT46 : Tabs RM38.blk := by rw [hRM38]; exact Tabs.mono hT fun b o e => Mem.addRest hFM38 e
    refine re_free2 4 13 8 [(1, 1), (3, 1), (4, 0), (6, 1), (8, 1), (9, 2), (10, 2), (11, 2), (12, 2)] [(0, false), (2, false), (5, false), (7, false)] [(14, true), (15, false)] 16 [1, 3, 4, 6, 8, 13] M380 (fo_build u8 Qs rfl rfl Zo Yw) (fo_alloc rfl rfl J6) (fun s hs => yqH rfl (fun w _H _hx => J7 Xt J6 rfl (_hx.rest _ _ ho45)) <| Ns rfl (Yh (v := vb) rfl) <| Ns rfl (Yh (v := vs) rfl) <| yqH rfl (fun w _H _hx => Qo Xl rfl Zg rfl (_hx.rest _ _ ho44) Sv) <| hs) <| fe_c rfl rfl fun _ hX w47 m47 => Wu.mono (Qq u8 [] Qs m47 Zo Yw rfl (by simp [Ce]) rfl) ?_
    rintro _ w48 ⟨b69, rfl, e48, m48⟩
    refine ⟨_, m48, ?_⟩
    refine fe_c rfl rfl fun _ hX w49 m49 => Wu.mono (Xf (f := u8) (Hs := [(b69, .cells (cl u8 ([])) 5 (0, 0))]) (H := []) m49 (Z5.of u8 5 b69 ([])) rfl rfl (Rd.ofRest (hr39.mono hX) m49) Zo Zo Yw rfl Qs sL sL) ?_
    rintro sv50 w50 ⟨Hs50, m50, g50⟩
    replace g50 : Z5 u8 5 sv50 lb Hs50 := g50
    refine ⟨_, m50, ?_⟩
    refine fe_f (fun b72 => ?_)
    refine fe_c rfl rfl fun _ hX w52 m52 => Wu.mono (Xf (f := u8) (Hs := [(b72, .cells (cl u8 ([])) 5 (0, 0))]) (H := Hs50 ++ ([])) m52 (Z5.of u8 5 b72 ([])) rfl rfl (Rd.ofRest (hr40.mono hX) m52) Zo Zo Yw rfl Qs sL sL) ?_
    rintro sv53 w53 ⟨Hs53, m53, g53⟩
    replace g53 : Z5 u8 5 sv53 ls Hs53 := g53
    refine ⟨_, m53, ?_⟩
    refine fe_c rfl rfl fun _ hX w54 m54 => Wu.mono (oc25 (Tm rfl rfl rfl rfl) (c_dec19 S vk sv50 lb sv53 ls _ _ ((hT46.mono hX).mono fun b o e => (m54).rest b o e) (RdK.ofRest (hr41.mono hX) m54) (g50.rd (Mem.pick Hs53 Hs50 _ m54)) sL (g53.rd m54) sL sL sL sL)) ?_
    rintro _ w55 ⟨vqq56, Hqq56, vpq56, Hpq56, rfl, gqq56, gpq56, k_w55⟩
    have m55 : Mem w55 _ (Hqq56 ++ (Hpq56 ++ (Hs53 ++ (Hs50 ++ ([]))))) := ymA (Mem.new (H := Hs53 ++ (Hs50 ++ ([]))) (H' := _) m54 k_w55)
    refine ⟨_, m55, ?_⟩
    refine fe_q rfl rfl (fun w _H _hx => Yh rfl) <| fe_q (v := (Value.agg (Qz (sS (Tz S lb ls f) (if Dk S lb ls f = 0 then vqq56 else vk))))) rfl rfl (fun w _H _hx => Zr rfl rfl) <| fe_q (v := vpq56) rfl rfl (fun w _H _hx => Zr rfl rfl) <| fe_q (v := (i64 (Dk S lb ls f))) rfl rfl (fun w _H _hx => Zr rfl rfl) <| fe_z fun b16 w58 hT => ?_
    have m58 : Mem w58 RM38 (Hqq56 ++ (Hpq56 ++ (Hs53 ++ (Hs50 ++ ([(b16, .cells (Qz (sE (List.replicate 32 0) (List.replicate 32 0) (List.replicate 32 0) false false (List.replicate 32 0) (List.replicate 32 0) 0 0 0 Wl)) 26 (0, 0))]))))) := (by
     try simp only [List.append_assoc, List.cons_append, List.nil_append, List.append_nil] at hT ⊢
     exact hT)
    refine Qf8 rfl (fun w59 e59 => ?_)
    have m59 := m58.ext e59
    refine Wu.mono (Kt J6 rfl rfl ((Mem.pick4 Hqq56 Hpq56 Hs53 Hs50 [_] _ m59)).h0 (Fa (RdK.one (RdK.ite (fun h => RdK.cast (gqq56.rd m59) (Qju h)) (fun h => RdK.cast (RdK.ofRest hr41 m59) (Qjv h)))))) ?_
    rintro _ w60 uq60
    have m60 : Mem _ _ ([_] ++ (Hqq56 ++ (Hpq56 ++ (Hs53 ++ (Hs50 ++ ([])))))) := Mem.upd0 (Mem.pick4 Hqq56 Hpq56 Hs53 Hs50 [_] _ m59) uq60
    refine ⟨⟨_, m60⟩, ?_⟩
    refine Ns rfl (Ud (v := vpq56) rfl) <| Gf m60 fun w61 m61 => ?_
    have hX62 := m61
    rw [hRM38] at hX62
    have m63 : Mem w61 (Qr w0) ([(b16, .cells (Qz (sS (Tz S lb ls f) (if Dk S lb ls f = 0 then vqq56 else vk))) 26 (0, 0))] ++ (Hqq56 ++ (Hpq56 ++ (Hs53 ++ (Hs50 ++ ([(b15, .cells (Qz (sS S sv36)) 26 (0, 0))] ++ (Hs36 ++ ([(b7, .cells (cl u8 f) 23 (0, 0)), (b4, .cells (Qz (sS S vk)) 26 (0, 0))])))))))) := ymA (Mem.back hFM38 hX62)
    refine Zx (i64 (Dk S lb ls f)) <| rN ?_
    have m64 := Mem.drop Hs53 _ (Mem.pick3 [_] Hqq56 Hpq56 Hs53 _ m63)
    have m65 := Mem.drop Hs50 _ (Mem.pick3 [_] Hqq56 Hpq56 Hs50 _ m64)
    exact ⟨b16, vqq56, Hqq56, vpq56, Hpq56, gqq56, gpq56, rfl, rfl, rfl, rfl, rfl, rfl, rfl, rfl, rfl, rfl, rfl, rfl, rfl, rfl, (by
     have hT := m65
     try simp only [List.append_assoc, List.cons_append, List.nil_append, List.append_nil] at hT ⊢
     exact hT)⟩
   rintro fr66 w67 ⟨b16, vq, Hq, vp, Hp, gq, gp, s0, s1, s2, s3, s4, s7, s8, s15, s16, s17, s18, s23, s32, s60, m67⟩
   refine sR <| Qd (J7 Xt J6 s15 ((Mem.pick3 [_] Hq Hp [_] _ m67)).h0) <| Yb s1 <| Yb s2 <| Qd (Qo Xl rfl Zg s7 ((Mem.pick5 [_] Hq Hp [_] Hs36 [_] _ m67)).h0 Sv) <| Vw (oc26 (Tm rfl rfl rfl rfl) (c_rdec19 S sv36 vb lb vs ls _ _ (g36.rd (Mem.pick4 [_] Hq Hp [_] Hs36 _ m67)) (Rd.ofRest hrb m67) sL (Rd.ofRest hrs m67) sL sL sL sL)) ?_
   rintro _ w68 ⟨vqq69, Hqq69, vpq69, Hpq69, rfl, gqq69, gpq69, k_w68⟩
   have m68 : Mem w68 (Qr w0) (Hqq69 ++ (Hpq69 ++ ([(b16, .cells (Qz (sS (Tz S lb ls f) (if Dk S lb ls f = 0 then vq else vk))) 26 (0, 0))] ++ (Hq ++ (Hp ++ ([(b15, .cells (Qz (sS S sv36)) 26 (0, 0))] ++ (Hs36 ++ ([(b7, .cells (cl u8 f) 23 (0, 0)), (b4, .cells (Qz (sS S vk)) 26 (0, 0))])))))))) := ymA (Mem.new (H := [(b16, .cells (Qz (sS (Tz S lb ls f) (if Dk S lb ls f = 0 then vq else vk))) 26 (0, 0))] ++ (Hq ++ (Hp ++ ([(b15, .cells (Qz (sS S sv36)) 26 (0, 0))] ++ (Hs36 ++ ([(b7, .cells (cl u8 f) 23 (0, 0)), (b4, .cells (Qz (sS S vk)) 26 (0, 0))])))))) (H' := _) m67 k_w68)
   refine Yb rfl <| Qd (v := (Value.agg (Qz (sS (Tz S lb ls f) (if Dk S lb ls f = 0 then vqq69 else sv36))))) (Zr rfl rfl) <| Qd (v := vpq69) (Zr rfl rfl) <| Qd (v := (i64 (Dk S lb ls f))) (Zr rfl rfl) <| Y9 (Jw m68 J6) fun w70 b19 m70 => Ye m70 (Kt J6 rfl rfl m70.h0 (Fa (RdK.one (RdK.ite (fun h => RdK.cast (gqq69.rd (Mem.pick [_] Hqq69 _ m70)) (Qju h)) (fun h => RdK.cast (g36.rd (Mem.pick7 [_] Hqq69 Hpq69 [_] Hq Hp [_] Hs36 _ m70)) (Qjv h)))))) fun w71 m71 => Zx vpq69 <| Zx (i64 (Dk S lb ls f)) ?_
   refine rN (sR ?_)
   refine Yb s18 <| Zm (i64 (Dk S lb ls f)) <| Qd (Gq rfl rfl) <| Zm (bl ((Dk S lb ls f) == (Dk S lb ls f))) ?_
   have hd72 : ((Dk S lb ls f) == (Dk S lb ls f)) = true := beq_self_eq_true _
   refine Zj (s := 92) rfl rfl hd72 rfl (J7 Xt J6 s16 ((Mem.pick3 [_] Hqq69 Hpq69 [_] _ m71)).h0) <| Zj (s := 92) rfl rfl hd72 rfl (J7 Xt J6 rfl m71.h0) <| Qfl (s := 92) rfl rfl hd72 rfl (oc14 (Xm rfl rfl) (Qj0 (Tz S lb ls f) (Tz S lb ls f) (if Dk S lb ls f = 0 then vq else vk) (if Dk S lb ls f = 0 then vqq69 else sv36) _ (RdK.ite (fun h => RdK.cast (gq.rd (Mem.pick4 [_] Hqq69 Hpq69 [_] Hq _ m71)) (Qju h)) (fun h => RdK.cast (RdK.ofRest hk m71) (Qjv h))) (RdK.ite (fun h => RdK.cast (gqq69.rd (Mem.pick [_] Hqq69 _ m71)) (Qju h)) (fun h => RdK.cast (g36.rd (Mem.pick7 [_] Hqq69 Hpq69 [_] Hq Hp [_] Hs36 _ m71)) (Qjv h))) sL rfl)) ?_
   rintro _ w73 ⟨rfl, e73⟩
   have m73 := m71.ext e73
   refine Qd (Jg rfl hd72 rfl) <| Zm (bl true) <| Zj (s := 97) rfl rfl rfl rfl (Yh s17) <| Zj (s := 97) rfl rfl rfl rfl (Yh (v := vpq69) rfl) <| Qfl (s := 97) rfl rfl rfl rfl (oc15 (Xm rfl rfl) (Qmu vp vpq69 (Qb7 S lb ls f) (Qb7 S lb ls f) _ (gp.rd (Mem.pick5 [_] Hqq69 Hpq69 [_] Hq Hp _ m73)) (gpq69.rd (Mem.pick2 [_] Hqq69 Hpq69 _ m73)) sL)) ?_
   rintro _ w75 ⟨rfl, e75⟩
   have m75 := m73.ext e75
   refine Qd (Hy rfl rfl) <| Zm (bl ((Qb7 S lb ls f) == (Qb7 S lb ls f))) ?_
   have hd77 : ((Qb7 S lb ls f) == (Qb7 S lb ls f)) = true := beq_self_eq_true _
   refine Zj (s := 102) rfl rfl hd77 rfl (J7 Xt J6 s4 ((Mem.pick9 [_] Hqq69 Hpq69 [_] Hq Hp [_] Hs36 [_] [_] _ m75)).h0) <| Zj (s := 102) rfl rfl hd77 rfl (J7 Xt J6 s15 ((Mem.pick6 [_] Hqq69 Hpq69 [_] Hq Hp [_] _ m75)).h0) <| Qfl (s := 102) rfl rfl hd77 rfl (oc14 (Xm rfl rfl) (Qj0 S S vk sv36 _ (RdK.ofRest hk m75) (g36.rd (Mem.pick7 [_] Hqq69 Hpq69 [_] Hq Hp [_] Hs36 _ m75)) sL rfl)) ?_
   rintro _ w78 ⟨rfl, e78⟩
   have m78 := m75.ext e78
   refine Qd (Jg rfl hd77 rfl) <| Zm (bl true) <| Zj (s := 107) rfl rfl rfl rfl (Yh s18) <| Zj (s := 107) rfl rfl rfl rfl (Gq (b := 0) rfl rfl) <| Zj (s := 107) rfl rfl rfl rfl (Yh (v := (bl ((Dk S lb ls f) == 0))) rfl) ?_
   rcases Bool.eq_false_or_eq_true ((Dk S lb ls f) == 0) with hb80 | hb80
   ·
    have hb80p := eq_of_beq hb80
    refine Yg (s := 110) rfl rfl hb80 rfl <| Yg (s := 110) rfl rfl hb80 rfl <| Yg (s := 110) rfl rfl hb80 rfl <| Zj (s := 107) rfl rfl rfl rfl (Jg rfl hb80 rfl) <| Qd (Hy rfl rfl) <| Zx (bl true) ?_
    refine rN (Zz ?_)
    refine Qp [(bl true)] ⟨rfl, trivial⟩ ?_
    exact ⟨rfl, Mem.below w0 m78⟩
   ·
    have hb80p := ne_of_beq_false hb80
    refine Zj (s := 110) rfl rfl hb80 rfl (J7 Xt J6 s16 ((Mem.pick3 [_] Hqq69 Hpq69 [_] _ m78)).h0) <| Zj (s := 110) rfl rfl hb80 rfl (J7 Xt J6 s15 ((Mem.pick6 [_] Hqq69 Hpq69 [_] Hq Hp [_] _ m78)).h0) <| Qfl (s := 110) rfl rfl hb80 rfl (oc14 (Xm rfl rfl) (Qj0 (Tz S lb ls f) S (if Dk S lb ls f = 0 then vq else vk) sv36 _ (RdK.ite (fun h => RdK.cast (gq.rd (Mem.pick4 [_] Hqq69 Hpq69 [_] Hq _ m78)) (Qju h)) (fun h => RdK.cast (RdK.ofRest hk m78) (Qjv h))) (g36.rd (Mem.pick7 [_] Hqq69 Hpq69 [_] Hq Hp [_] Hs36 _ m78)) sL (Qmn (beq_eq_false_iff_ne.1 hb80)).1.symm)) ?_
    rintro _ w81 ⟨rfl, e81⟩
    have m81 := m78.ext e81
    refine Zj (s := 107) rfl rfl rfl rfl (Yz rfl hb80 rfl) <| Qd (Hy rfl rfl) <| Zx (bl true) ?_
    refine rN (Zz ?_)
    refine Qp [(bl true)] ⟨rfl, trivial⟩ ?_
    exact ⟨rfl, Mem.below w0 m81⟩
end Go.Proofs.YtkmiemlpfkfiiaaDoor
