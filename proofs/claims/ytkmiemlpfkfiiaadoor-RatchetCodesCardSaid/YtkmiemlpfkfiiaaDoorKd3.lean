/- Contracts: kdf, third part. Conditions: none beyond those that each theorem states. -/
import Derived.Test.YtkmiemlpfkfiiaaDoorKd2
namespace Go.Proofs.YtkmiemlpfkfiiaaDoor
set_option linter.unusedVariables false
set_option linter.unusedSimpArgs false
@[simp] theorem filled_len {α : Type} (g : Nat → α) (z : α) (n k : Nat) : (Jp g z n k).length = k + (n - k) := by simp [Jp]
theorem Qgk (X : List (BitVec 8)) (i : Nat) (h : 32 * i + 32 ≤ X.length) : Jp (fun j => X.getD (32 * (i : Int) + (j : Int)).toNat 0) 0 32 32 = (X.drop (32 * i)).take 32 := by
  rw [Qga]
  refine List.ext_getElem (by simp; omega) fun j h1 h2 => ?_
  simp only [List.length_map, List.length_range] at h1
  have e : (32 * (i : Int) + (j : Int)).toNat = 32 * i + j := by omega
  simp [e, List.getD_eq_getElem?_getD]
  rw [List.getElem?_eq_getElem oM]; rfl
attribute [local irreducible] Ya tK Qa0 V7 Vp Va En Qah H9
theorem Qg3 (mark : BitVec 8) (bk : Nat) (chain : List (BitVec 8)) (w0 : World)  (hT : Tabs (Y3 w0)) (hbk : Y3 w0 bk = some (.cells (cl u8 chain) 23 (0, 0))) (hcl : chain.length = 32) : X8 Tryd.prog 58 #[(u8 mark), (ptr bk 0)] w0 (fun r w1 => r = (agg u8 (Ya chain [mark])) ∧ Ext w0 w1) := by
 refine Zp (args := [(u8 mark), (ptr bk 0)]) Tryd.func58 rfl Tryd.ntmps58 Tryd.results58 rfl ?_
 have hm0 : Mem w0 (Qo w0) [] := Mem.of_world w0
 refine sR <| Zo rfl (Zy hm0 Z5) ?_
 rintro _ w1 ⟨b3, rfl, _ew1, hm1⟩
 refine rN (sR ?_)
 refine Qb rfl (Xg (i := 0) (j := 32) Xo Yq rfl (Zn _ _) (Zn _ _) oM sD sD) <| Qb rfl (Qc (v := (u8 mark)) rfl) <| Zo rfl (Xd u8 [mark] Q8 hm1 Z4 Yq rfl rfl rfl) ?_
 rintro _ w2 ⟨b6, rfl, _ew2, hm2⟩
 refine Zo rfl (Jj [(Jt b6 0 1 1)] (by simp [Jt, ptr, Value.oneCell', i64, u8, u32, u64, bl]) hm2 uT65 Aj rfl rfl rfl) ?_
 rintro _ w3 ⟨b7, rfl, _ew3, hm3⟩
 have hm3 : Mem w3 (Qo w0) [(b7, .cells #[(Jt b6 0 1 1)] 27 (0, 0)), (b6, .cells (cl u8 ([mark])) 5 (0, 0)), (b3, .cells (cl u8 (List.replicate 32 0)) 23 (0, 0))] := hm3
 refine Zo rfl (Qx Tryd.func59 bd59 nm59 (Yk rfl rfl) (Rx (sla bk 0 1 0 32 32) chain (Jt b7 0 1 1) ([((Jt b6 0 1 1), [mark])]) _ (hT.mono fun b o e => (hm3).rest b o e) (Rd.slaAll (hm3.rest _ _ hbk) sD) sD (Rd.mkA (f := Prod.fst) (l := [((Jt b6 0 1 1), [mark])]) hm3.h0) (Ur (Rd.mkA hm3.h1) D9) (by rw [Dq]; simp) sD)) ?_
 rintro _ w4 ⟨rfl, _ew4⟩
 have hm4 := hm3.ext _ew4
 refine Xf (Zl (f := u8) (l := Ya chain (Js ([((Jt b6 0 1 1), [mark])]))) Q8 Z5 rfl rfl sD hm4.h2 sZ rfl) ?_
 rintro _ w6 uq6
 have hm6 := hm4.upd2 uq6
 refine rN (Xn ?_)
 refine Zj [(agg u8 (Ya chain (Js ([((Jt b6 0 1 1), [mark])]))))] ⟨⟨_, rfl, X6 Xo rfl Z5 hm6.h2 sZ⟩, trivial⟩ ?_
 exact ⟨congrArg (agg u8) (by rw [Dq]), hm6.toExt⟩
theorem c_step (chain : List (BitVec 8)) (w0 : World)  (hT : Tabs (Y3 w0)) (hcl : chain.length = 32) : X8 Tryd.prog 32 #[(agg u8 chain)] w0 (fun r w1 => r = (Value.tuple #[(agg u8 (Ya chain [2#8])), (agg u8 (Ya chain [1#8]))]) ∧ Ext w0 w1) := by
 refine Zp (args := [(agg u8 chain)]) Tryd.func32 rfl Tryd.ntmps32 Tryd.results32 rfl ?_
 have hm0 : Mem w0 (Qo w0) [] := Mem.of_world w0
 refine sR <| Zo rfl (X4 (f := u8) (l := chain) hm0 rfl) ?_
 rintro _ w1 ⟨b1, rfl, _ew1, hm1⟩
 refine Zo rfl (Zy hm1 Z5) ?_
 rintro _ w2 ⟨b2, rfl, _ew2, hm2⟩
 refine Zo rfl (Zy hm2 Z5) ?_
 rintro _ w3 ⟨b3, rfl, _ew3, hm3⟩
 refine rN (sR ?_)
 refine Qb rfl (Qbw (Ye rfl)) <| Qb rfl (Qd (v := (Value.func (.func 58) #[] #[(ptr b1 0)])) rfl) ?_
 refine rN (sR ?_)
 refine Qb rfl (Qc (v := (Value.func (.func 58) #[] #[(ptr b1 0)])) rfl) <| Zo rfl (Uh (f := 58) rfl Tryd.func58 bd58 nm58 (Ye rfl) (Qg3 2#8 b1 chain _ (hT.mono fun b o e => (hm3).rest b o e) hm3.h2 sD)) ?_
 rintro _ w4 ⟨rfl, _ew4⟩
 have hm4 := hm3.ext _ew4
 refine Qb rfl (Qc (v := (Value.func (.func 58) #[] #[(ptr b1 0)])) rfl) <| Zo rfl (Uh (f := 58) rfl Tryd.func58 bd58 nm58 (Ye rfl) (Qg3 1#8 b1 chain _ (hT.mono fun b o e => (hm4).rest b o e) hm4.h2 sD)) ?_
 rintro _ w6 ⟨rfl, _ew6⟩
 have hm6 := hm4.ext _ew6
 refine Xf (Zl (f := u8) (l := Ya chain [2#8]) Q8 Z5 rfl rfl sD hm6.h1 sZ rfl) ?_
 rintro _ w8 uq8
 have hm8 := hm6.upd1 uq8
 refine Xf (Zl (f := u8) (l := Ya chain [1#8]) Q8 Z5 rfl rfl sD hm8.h0 sZ rfl) ?_
 rintro _ w9 uq9
 have hm9 := hm8.upd0 uq9
 refine rN (Xn ?_)
 refine Zj [(agg u8 (Ya chain [2#8])), (agg u8 (Ya chain [1#8]))] ⟨⟨_, rfl, X6 Xo rfl Z5 hm9.h1 sZ⟩, ⟨_, rfl, X6 Xo rfl Z5 hm9.h0 sZ⟩, trivial⟩ ?_
 exact ⟨rfl, hm9.toExt⟩
end Go.Proofs.YtkmiemlpfkfiiaaDoor
