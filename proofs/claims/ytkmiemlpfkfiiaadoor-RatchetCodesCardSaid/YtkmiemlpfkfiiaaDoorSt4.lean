/- Contracts: stream, fourth part. Conditions: none beyond those that each theorem states. -/
import Derived.Test.YtkmiemlpfkfiiaaDoorSt2
namespace Go.Proofs.YtkmiemlpfkfiiaaDoor
set_option linter.unusedVariables false
set_option linter.unusedSimpArgs false
theorem same_len {la lb : List (BitVec 8)} (h : (la.length : Int) ≠ (lb.length : Int)) : false = (la == lb) := by
  symm; rw [beq_eq_false_iff_ne]; rintro rfl; exact h rfl
theorem same_at {la lb : List (BitVec 8)} {k : Nat} (h : la.getD k 0 ≠ lb.getD k 0) : false = (la == lb) := by
  symm; rw [beq_eq_false_iff_ne]; rintro rfl; exact h rfl
theorem same_all {la lb : List (BitVec 8)} (h : (la.length : Int) = (lb.length : Int)) (hall : ∀ j, j < la.length → la.getD j 0 = lb.getD j 0) : true = (la == lb) := by
  symm; rw [beq_iff_eq]
  refine List.ext_getElem oM fun i h1 h2 => ?_
  have := hall i h1
  simpa [List.getD_eq_getElem?_getD, h1, h2] using this
theorem Qg9 {la lb : List (BitVec 8)} {k : Nat} (heq : ∀ j, j < k → la.getD j 0 = lb.getD j 0) (h : la.getD k 0 = lb.getD k 0) : ∀ j, j < k + 1 → la.getD j 0 = lb.getD j 0 := by
  intro j hj
  rcases Nat.lt_or_ge j k with h1 | h1
  · exact heq j h1
  · have : j = k := by omega
    subst this; exact h
theorem c_same (va vb : Value) (la lb : List (BitVec 8)) (w0 : World)  (hra : Rd (Y3 w0) u8 va la) (hrb : Rd (Y3 w0) u8 vb lb) (hla : la.length ≤ 281474976710656) : X8 Tryd.prog 15 #[va, vb] w0 (fun r w1 => r = (bl (la == lb)) ∧ Ext w0 w1) := by
 refine Zp (args := [va, vb]) Tryd.func15 rfl Tryd.ntmps15 Tryd.results15 rfl ?_
 have hm0 : Mem w0 (Qo w0) [] := Mem.of_world w0
 refine sR <| Qb rfl (Qd (v := (bl false)) rfl) ?_
 refine rN (Qh (sR ?_))
 refine rM rfl (v := va) rfl <| Qb (v := (i64 (la.length : Int))) rfl (Yi (Rd.ofRest hra hm0) Z4 rfl) <| rM rfl (v := vb) rfl <| Qb (v := (i64 (lb.length : Int))) rfl (Yi (Rd.ofRest hrb hm0) Z4 rfl) <| Qb rfl (Wn rfl rfl) <| rN ?_
 refine Xy rfl (fun hc1 => ?_) (fun hc1 => ?_)
 ·
   have hc1p := bne_iff_ne.1 hc1
   refine sR <| Qb rfl (Qd (v := (bl false)) rfl) ?_
   refine rN (Xn (Jv ?_))
   refine Zj [(bl false)] ⟨rfl, trivial⟩ ?_
   exact ⟨congrArg bl (same_len hc1p), hm0.toExt⟩
 ·
   have hc1p := Kr hc1
   refine Zc (Qi (Qh (sR ?_)))
   refine Qb rfl (Qd (v := (i64 0)) rfl) ?_
   refine rN (Qv ?_)
   refine Jg (fun g wv => ∃ (k : Nat), (k ≤ la.length) ∧ (∀ j, j < k → la.getD j 0 = lb.getD j 0) ∧ g 0 = va ∧ g 1 = vb ∧ g 5 = (i64 (k : Int)) ∧ g 10 = (bl ((la.length : Int) != (lb.length : Int))) ∧ Mem wv (Qo w0) []) (fun g wv => ((la.length : Int) - RowKit.intOf (g 5)).toNat) ?_ ?_
   · exact ⟨0, oM, (by intro j hj; omega), rfl, rfl, rfl, rfl, hm0⟩
   · rintro fr2 w3 ⟨k, hk, heq, s0, s1, s5, s10, hm3⟩
     have z5 := s5
     refine Qh (sR ?_)
     refine rM rfl s5 <| rM rfl s0 <| Qb (v := (i64 (la.length : Int))) rfl (Yi (Rd.ofRest hra hm3) Z4 rfl) <| Qb rfl (Qs rfl rfl) <| rN ?_
     refine Xy rfl (fun hc4 => ?_) (fun hc4 => ?_)
     ·
       have hc4p := of_decide_eq_true hc4
       refine Zc (Qi (Qh (Qv (Qh ?_))))
       refine Yc [(0, false), (1, false), (2, false), (3, false), (4, false), (5, false), (6, false), (7, false)] 8 (by kernel_rfl) <| dM rfl rfl s0 <| dM rfl rfl s5 <| Qw rfl rfl (fun _ _hx => Xi (Rd.ofRest hra (hm3.ext _hx)) Z4 Yq rfl rfl oM sD) <| Qw (v := (u8 (la.getD k 0))) rfl rfl (fun _ _hx => Yg (l := la) (i := (k : Int)) (dflt := 0) (Rd.ofRest hra (hm3.ext _hx)) Vh rfl oM sD rfl) <| dM rfl rfl s1 <| dM rfl rfl s5 <| Qw rfl rfl (fun _ _hx => Xi (Rd.ofRest hrb (hm3.ext _hx)) Z4 Yq rfl rfl oM sD) <| Qw (v := (u8 (lb.getD k 0))) rfl rfl (fun _ _hx => Yg (l := lb) (i := (k : Int)) (dflt := 0) (Rd.ofRest hrb (hm3.ext _hx)) Vh rfl oM sD rfl) ?_
       refine X3 (fun w5 _ew5 => ?_)
       have hm5 := hm3.ext _ew5
       refine Qb rfl (Qba rfl rfl) <| rN ?_
       refine CW.abs (fun g => g 0 = va ∧ g 1 = vb ∧ g 5 = (i64 (k : Int)) ∧ g 10 = (bl ((la.length : Int) != (lb.length : Int))) ∧ g 14 = (bl (decide ((k : Int) < (la.length : Int)))) ∧ g 25 = (bl ((la.getD k 0) != (lb.getD k 0))) ∧ True) ⟨s0, s1, s5, s10, rfl, rfl, trivial⟩ ?_
       rintro fr6 ⟨s0, s1, s5, s10, s14, s25, _⟩
       refine Xy s25 (fun hc7 => ?_) (fun hc7 => ?_)
       ·
         have hc7p := bne_iff_ne.1 hc7
         refine sR <| Qb rfl (Qd (v := (bl false)) rfl) ?_
         refine rN (Xn ?_)
         refine Fp (Jv (Fp ?_))
         refine Zj [(bl false)] ⟨rfl, trivial⟩ ?_
         exact ⟨congrArg bl (same_at hc7p), hm5.toExt⟩
       ·
         have hc7p := Kr hc7
         refine Zc (Qn (Qg ?_))
         refine rM rfl s5 <| Qb rfl (Qk (b := 1) rfl rfl oM oM) <| Qb rfl (Qd (v := (i64 ((k : Int) + 1))) rfl) <| rN ?_
         exact ⟨⟨k + 1, oM, (Qg9 heq hc7p), s0, s1, rfl, s10, hm5⟩, Fj rfl z5 oM oM⟩
     ·
       have hc4p := of_decide_eq_false hc4
       refine Yb ?_
       refine Zb (Zb (Xw ?_))
       refine sR <| Qb rfl (Qd (v := (bl true)) rfl) ?_
       refine rN (Xn ?_)
       refine Zj [(bl true)] ⟨rfl, trivial⟩ ?_
       exact ⟨congrArg bl (same_all hc1p (fun j hj => heq j oM)), hm3.toExt⟩
end Go.Proofs.YtkmiemlpfkfiiaaDoor
