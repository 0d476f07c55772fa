/- The ratchet: sessions as records, deletions. Conditions: none beyond those that each theorem states. -/
import Derived.Test.YtkmiemlpfkfiiaaDoorFwW
namespace Go.Proofs.YtkmiemlpfkfiiaaDoor
open Tryd
set_option linter.unusedVariables false
set_option linter.unusedSimpArgs false
section
variable {α : Type} {enc : α → List Value} {k E : Nat} {v : Value} {l : List α} {Hs H : List (Nat × Obj)} {w : World} {R : Rest}
def Sv (enc : α → List Value) (k E : Nat) (v : Value) (l : List α) (Hs : List (Nat × Obj)) (c : Nat) : Prop :=
 (∀ a ∈ l, (enc a).length = k) ∧ ∃ (b : Nat) (pre sp post : List Value) (ns : Nat), sp.length = ns * k ∧ c ≤ ns ∧ v = Wq b pre.length l.length (l.length + ns) ∧ Hs = [(b, .cells (pre ++ (l.flatMap enc ++ (sp ++ post))).toArray E (0, 0))]
theorem Sv.grow {c : Nat} (h : Sv enc k E v l Hs c) : Yz enc k E v l Hs := by
 obtain ⟨h0, b, pre, sp, post, ns, h1, _, h2, h3⟩ := h
 exact ⟨h0, .inr ⟨b, pre, sp, post, ns, h1, h2, h3⟩⟩
theorem Sv.cast {l' : List α} {c c' : Nat} (h : Sv enc k E v l Hs c) (e : l = l') (hc : c' ≤ c) : Sv enc k E v l' Hs c' := by
 subst e; obtain ⟨h0, b, pre, sp, post, ns, h1, h4, h2, h3⟩ := h
 exact ⟨h0, b, pre, sp, post, ns, h1, Nat.le_trans hc h4, h2, h3⟩
theorem Yz.cutc {j : Int} (hg : Yz enc k E v l Hs) (h0 : 0 ≤ j) (h1 : j ≤ l.length) (hl : 0 < l.length) : Sv enc k E (Ph v 0 j k) (l.take j.toNat) Hs (l.length - j.toNat) := by
 obtain ⟨hlen, ⟨_, rfl, _⟩ | ⟨b, pre, sp, post, ns, hsp, rfl, rfl⟩⟩ := hg
 ·simp at hl
 have hd2 : ((l.drop j.toNat).flatMap enc).length = (l.length - j.toNat) * k := by
  rw [U3 fun a ha => hlen a (List.mem_of_mem_drop ha)]; simp
 refine ⟨fun a ha => hlen a (List.mem_of_mem_take ha), b, pre, (l.drop j.toNat).flatMap enc ++ sp, post, (l.length - j.toNat) + ns, ?_, Nat.le_add_right _ _, ?_, ?_⟩
 ·rw [List.length_append, hd2, hsp, Nat.add_mul]
 ·have hne : ¬ l.length + ns = (0 : Int).toNat := by intro h; have : (0 : Int).toNat = 0 := rfl; omega
  simp only [Ph, Wq, List.length_take]
  rw [if_neg hne]
  simp only [Option.map_some, Int.toNat_zero, Nat.zero_mul, Nat.sub_zero]
  rw [show min j.toNat l.length = j.toNat by omega]
  congr 1; omega
 have e5 : l.flatMap enc = (l.take j.toNat).flatMap enc ++ (l.drop j.toNat).flatMap enc := by rw [← List.flatMap_append, List.take_append_drop]
 rw [e5]; simp
end
section
variable {P : Program} {fr : Nat → Value} {w : World} {ty T T' E E' : TypeId} {x y : Operand} {kb k : Nat} {R : Rest} {H Hs : List (Nat × Obj)} {α : Type} {enc : α → List Value} {v : Value} {l : List α}
theorem kc_ovr {ms : List Value} {pre sp post : List Value} (hl : ∀ a ∈ l, (enc a).length = k) (n : Nat) (hm : ms.length = n * k) (hs : n * k ≤ sp.length) :
  ovr (pre ++ (l.flatMap enc ++ (sp ++ post))).toArray (pre.length + l.length * k + 0) ms = (pre ++ (l.flatMap enc ++ (ms ++ (sp.drop (n * k) ++ post)))).toArray := by
 have hll := U3 hl
 apply Array.ext'
 rw [Pn _ _ _ (by simp [hll, hm]; omega)]
 have e0 : List.take (pre.length + l.length * k + 0) (pre ++ (l.flatMap enc ++ (sp ++ post))) = pre ++ l.flatMap enc := by
  rw [← List.append_assoc]; exact List.take_left' (by simp [hll])
 have e1 : List.drop (pre.length + l.length * k + 0 + ms.length) (pre ++ (l.flatMap enc ++ (sp ++ post))) = sp.drop (n * k) ++ post := by
  have e2 : pre ++ (l.flatMap enc ++ (sp ++ post)) = (pre ++ l.flatMap enc) ++ (sp ++ post) := by simp
  have e3 : pre.length + l.length * k + 0 + ms.length = (pre ++ l.flatMap enc).length + n * k := by simp [hll, hm]
  have e4 : ∀ (A B : List Value) (q : Nat), List.drop (A.length + q) (A ++ B) = List.drop q B := fun A B q => by rw [← List.drop_drop, List.drop_left]
  rw [e2, e3, e4, List.drop_append_of_le_length oM]
 rw [e0, e1]; simp
theorem Qnf {zv u : Value} {ms : List α} {c : Nat} (hm : Mem w R (Hs ++ H)) (hg : Sv enc k E v l Hs c) (hx : Qq fr x = v) (hy : Qq fr y = u) (hr : RdK (Jl w) enc k u ms) (hT : P.underlying T = some (.slice E)) (hT' : P.underlying T' = some (.slice E'))
  (hi : Jm P E = some (some zv, k, kb)) (hk0 : Nat.blt 0 k = true) (hf : ∀ a ∈ ms, (enc a).all (·.oneCell') = true) (hc : ms.length ≤ c) :
  Vp P fr w (.call ⟨.builtin .append, #[x, y], #[T, T']⟩) ty (fun v' w' => ∃ Hs', Mem w' R (Hs' ++ H) ∧ Sv enc k E v' (l ++ ms) Hs' (c - ms.length)) := by
 have hk := Nat.le_of_ble_eq_true hk0
 obtain ⟨hl, b, pre, sp, post, ns, hsp, hcn, rfl, rfl⟩ := hg
 have hall : ∀ a ∈ l ++ ms, (enc a).length = k := fun a ha => by
  rcases List.mem_append.1 ha with h | h
  ·exact hl a h
  exact hr.len a h
 have hml := U3 hr.len
 have hll := U3 hl
 have hle : ms.length * k ≤ ns * k := Nat.mul_le_mul_right k oM
 have hb : w.heap[b]? = some (.cells (pre ++ (l.flatMap enc ++ (sp ++ post))).toArray E (0, 0)) := hm.own (b, .cells (pre ++ (l.flatMap enc ++ (sp ++ post))).toArray E (0, 0)) X7
 obtain ⟨w', h1, h2⟩ := Fq (P := P) (ms.flatMap enc) 0 (pre.length + l.length * k) (pre ++ (l.flatMap enc ++ (sp ++ post))).toArray w hb (by simp [hll, hml, hsp]; omega) X7 (by
  intro u hu
  obtain ⟨a, ha0, ha⟩ := List.mem_flatMap.1 hu
  exact List.all_eq_true.1 (hf a ha0) u ha)
 have hrun := Qai (ty := ty) (w' := w') hk hx hy hr hT hT' hi (by omega : l.length + ms.length ≤ l.length + ns) (fun a' ha => by cases ha; rw [Vx]; exact h1) (fun h => by cases h)
 refine .inl ⟨_, _, hrun, [(b, .cells (pre ++ ((l ++ ms).flatMap enc ++ (sp.drop (ms.length * k) ++ post))).toArray E (0, 0))], ?_, hall, b, pre, sp.drop (ms.length * k), post, ns - ms.length, ?_, by omega, ?_, rfl⟩
 ·have h3 := Mem.upd (H1 := []) hm h2
  rw [kc_ovr hl ms.length hml (by rw [hsp]; exact hle)] at h3
  rw [List.flatMap_append, List.append_assoc]
  exact h3
 ·rw [List.length_drop, hsp, Nat.sub_mul]
 simp [Wq]; omega
theorem Qnv {z : Option Value} {lo hi : Operand} {i j : Int} {c : Nat} (hg : Sv enc k E v l Hs c) (hu : P.underlying T = some (.slice E)) (hi' : Jm P E = some (z, k, kb)) (hx : Qq fr x = v) (hlo : Qq fr lo = i64 i) (hhi : Qq fr hi = i64 j) (h0 : 0 ≤ i) (h1 : i ≤ j) (h2 : j ≤ (l.length : Int) + c) :
  Ko P fr w (.slice T x (some lo) (some hi) none) ty (Ph v i j k) := by
 obtain ⟨_, b, pre, sp, post, ns, _, hcn, rfl, _⟩ := hg
 exact Qdd hu hi' hx (Yh (k := .i64) hlo) (Yh (k := .i64) hhi) h0 h1 oM
def sub3K (v : Value) (i j : Int) (n k : Nat) : Value := match v with | .slice a _ _ => .slice (if n = i.toNat then a else a.map (·.add (i.toNat * k))) (j.toNat - i.toNat) (n - i.toNat) | _ => undef
theorem Qmb {z : Option Value} {m : Nat → Option Obj} {lo hi mx : Operand} {i j : Int} (h : RdK m enc k v l) (hu : P.underlying T = some (.slice E)) (hi' : Jm P E = some (z, k, kb)) (hx : Qq fr x = v) (hlo : Qq fr lo = i64 i) (hhi : Qq fr hi = i64 j) (hmx : Qq fr mx = i64 (l.length : Int)) (h0 : 0 ≤ i) (h1 : i ≤ j) (h2 : j ≤ l.length) :
  Ko P fr w (.slice T x (some lo) (some hi) (some mx)) ty (sub3K v i j l.length k) := by
 obtain ⟨a, cap, rfl, hle, h4⟩ := h.is
 unfold Ko L6
 show Sem.run P (do let v ← Instr.sliceAt T (Qq fr x) ((some lo).map (Qq fr)) ((some hi).map (Qq fr)) ((some mx).map (Qq fr)); pure (Next.value v)) w = _
 rw [hx]
 have hb1 : (Instr.sliceBound (i64 (l.length : Int)) cap .slice3Acap).run P w = .ok (l.length : Int).toNat w := G9 oM oM
 have hb2 : (Instr.sliceBound (i64 j) (l.length : Int).toNat .slice3B).run P w = .ok j.toNat w := G9 oM oM
 have hb3 : (Instr.sliceBound (i64 i) j.toNat .slice3C).run P w = .ok i.toNat w := G9 h0 oM
 simp only [Int.toNat_natCast] at hb1 hb2
 simp [Instr.sliceAt, Instr.slice, Instr.sliceBounds, Vs hu, hlo, hhi, hmx, hb1, hb2, hb3, We hi', sub3K]
theorem Qom {zv : Value} {j : Int} {c : Nat} (hm : Mem w R (Hs ++ H)) (hg : Sv enc k E v l Hs c) (hx : Qq fr x = Ph v (l.length : Int) j k) (hT : P.underlying T = some (.slice E)) (hi : Jm P E = some (some zv, k, kb)) (hz : zv.cells.size = k) (hz1 : zv.cells.toList.all (·.oneCell') = true) (h1 : (l.length : Int) ≤ j) (h2 : j ≤ (l.length : Int) + c) :
  Vp P fr w (.call ⟨.builtin .clear, #[x], #[T]⟩) ty (fun _ w' => ∃ Hs', Mem w' R (Hs' ++ H) ∧ Yz enc k E v l Hs') := by
 have hg0 := hg.grow
 obtain ⟨hl, b, pre, sp, post, ns, hsp, hcn, rfl, rfl⟩ := hg
 have hrunx : ∀ w', (Builtin.clear_ #[T] ty #[Ph (Wq b pre.length l.length (l.length + ns)) (l.length : Int) j k]).run P w = .ok (.tuple #[]) w' → (L6 (Qq fr) (.call ⟨.builtin .clear, #[x], #[T]⟩) ty).run P w = .ok (.value (.tuple #[])) w' := by
  intro w' h
  rw [Eg]
  simp only [List.map_toArray, List.map_cons, List.map_nil, hx, builtin, Sem.run_bind]
  rw [h]; rfl
 by_cases hz0 : j = (l.length : Int)
 ·subst hz0
  refine .inl ⟨_, w, hrunx w ?_, _, hm, hg0⟩
  have e : Ph (Wq b pre.length l.length (l.length + ns)) (l.length : Int) (l.length : Int) k = .slice (if l.length + ns = ((l.length : Int)).toNat then some ⟨b, pre.length, none⟩ else (some (⟨b, pre.length, none⟩ : Addr)).map (·.add (((l.length : Int)).toNat * k))) 0 ns := by
   simp [Ph, Wq]
  rw [e]
  generalize (if l.length + ns = ((l.length : Int)).toNat then some (⟨b, pre.length, none⟩ : Addr) else (some (⟨b, pre.length, none⟩ : Addr)).map (·.add (((l.length : Int)).toNat * k))) = a0
  cases a0 <;> simp [Builtin.clear_, Vs hT]
 obtain ⟨n, hn⟩ : ∃ n : Nat, j = (l.length : Int) + (n + 1 : Nat) := ⟨(j - l.length - 1).toNat, by omega⟩
 subst hn
 have hll := U3 hl
 have e : Ph (Wq b pre.length l.length (l.length + ns)) (l.length : Int) ((l.length : Int) + (n + 1 : Nat)) k = .slice (some ⟨b, pre.length + l.length * k, none⟩) (n + 1) ns := by
  simp only [Ph, Wq]
  rw [if_neg (by simp; omega)]
  simp only [Option.map_some, Vx, Int.toNat_natCast]
  congr 1 <;> omega
 have hb : w.heap[b]? = some (.cells (pre ++ (l.flatMap enc ++ (sp ++ post))).toArray E (0, 0)) := hm.own (b, .cells (pre ++ (l.flatMap enc ++ (sp ++ post))).toArray E (0, 0)) X7
 have hzs : (Builtin.zeroCells zv.cells (n + 1)).toList.length = (n + 1) * k := by simp [Builtin.zeroCells, hz]
 have hle : (n + 1) * k ≤ ns * k := Nat.mul_le_mul_right k oM
 obtain ⟨w', h3, h4⟩ := Fq (P := P) (Builtin.zeroCells zv.cells (n + 1)).toList 0 (pre.length + l.length * k) (pre ++ (l.flatMap enc ++ (sp ++ post))).toArray w hb (by simp [hll, hzs, hsp]; omega) X7 (by
  intro u hu
  simp only [Builtin.zeroCells, Array.toList_map, List.mem_map, Array.toList_range, List.mem_range] at hu
  obtain ⟨i, hi0, rfl⟩ := hu
  have hpos : 0 < zv.cells.size := Nat.pos_of_ne_zero fun h => by rw [h, Nat.mul_zero] at hi0; omega
  rw [getElem!_pos zv.cells (i % zv.cells.size) (Nat.mod_lt _ hpos)]
  exact List.all_eq_true.1 hz1 _ X7)
 refine .inl ⟨_, w', hrunx w' ?_, [(b, .cells (pre ++ (l.flatMap enc ++ ((Builtin.zeroCells zv.cells (n + 1)).toList ++ (sp.drop ((n + 1) * k) ++ post)))).toArray E (0, 0))], ?_, hl, .inr ⟨b, pre, (Builtin.zeroCells zv.cells (n + 1)).toList ++ sp.drop ((n + 1) * k), post, ns, ?_, rfl, by simp⟩⟩
 ·rw [e]
  simp only [Builtin.clear_]
  simp [Vs hT, Fg hi, h3]
 ·have h5 := Mem.upd (H1 := []) hm h4
  rw [kc_ovr hl (n + 1) hzs (by rw [hsp]; exact hle)] at h5
  exact h5
 rw [List.length_append, hzs, List.length_drop, hsp]; omega
end
def Bl (l : Xg) : Xg := (l ++ List.replicate 32 0#8).take 32
theorem Md (l : Xg) : (Bl l).length = 32 := by unfold Bl; simp
theorem Rq {l : Xg} (h : l.length = 32) : Bl l = l := by unfold Bl; rw [← h, List.take_left]
structure Sn where
 r : Xg
 w : Xg
 o : Xg
 sb : Bool
 tb : Bool
 s : Xg
 t : Xg
 n1 : Int
 n2 : Int
 n3 : Int
 ks : List Kp
 hr : r.length = 32
 hw : w.length = 32
 ho : o.length = 32
 hs : s.length = 32
 ht : t.length = 32
@[simp] theorem Sn.lr (S : Sn) : S.r.length = 32 := S.hr
@[simp] theorem Sn.lw (S : Sn) : S.w.length = 32 := S.hw
@[simp] theorem Sn.lo (S : Sn) : S.o.length = 32 := S.ho
@[simp] theorem Sn.ls (S : Sn) : S.s.length = 32 := S.hs
@[simp] theorem Sn.lt (S : Sn) : S.t.length = 32 := S.ht
theorem Sn.l5 (S : Sn) : S.r.length = 32 ∧ S.w.length = 32 ∧ S.o.length = 32 ∧ S.s.length = 32 ∧ S.t.length = 32 := ⟨S.hr, S.hw, S.ho, S.hs, S.ht⟩
abbrev sS (S : Sn) (v : Value) : List (List Value) := sE S.r S.w S.o S.sb S.tb S.s S.t S.n1 S.n2 S.n3 v
def Sn.one (S : Sn) : Sn := ⟨S.r, S.w, S.o, S.sb, S.tb, Xk S.s [2#8], S.t, S.n1 + 1, S.n2, S.n3, S.ks, S.hr, S.hw, S.ho, Gi _ _, S.ht⟩
def Jq (S : Sn) : Int := if S.sb then if S.n1 = 2147483647 then 12 else 0 else 13
def Y2 (S : Sn) : Sn := if Jq S = 0 then S.one else S
def Yi (S : Sn) (b p : Xg) : Xg := if Jq S = 0 then Tc S.w S.s S.n3 S.n1 b p else []
theorem Qmg (S : Sn) : (Y2 S).ks = S.ks := by unfold Y2; split <;> rfl
def Qg (ro ow ot : Xg) : Sn :=
 ⟨Yg ro (Qe ow ot), Bl ow, Bl ot, true, false, Jj ro (Qe ow ot), List.replicate 32 0, 0, 0, 0, [], Dj _ _, Md _, Md _, Ed _ _, rfl⟩
def Q9 (ro ow : Xg) : Sn :=
 ⟨Bl ro, Bl ow, List.replicate 32 0, false, false, List.replicate 32 0, List.replicate 32 0, 0, 0, 0, [], Md _, Md _, rfl, rfl, rfl⟩
def Sn.skip (S : Sn) : Sn := ⟨S.r, S.w, S.o, S.sb, S.tb, S.s, Xk S.t [2#8], S.n1, S.n2 + 1, S.n3, S.ks ++ [⟨S.o, S.n2, Xk S.t [1#8], S.ho, Gi _ _⟩], S.hr, S.hw, S.ho, S.hs, Gi _ _⟩
def Zx (S : Sn) : Nat → Sn
 | 0 => S
 | k + 1 => (Zx S k).skip
theorem Qh2 (S : Sn) : ∀ k, (Zx S k).n2 = S.n2 + k
 | 0 => by simp [Zx]
 | k + 1 => by show (Zx S k).n2 + 1 = _; rw [Qh2 S k]; omega
theorem Qip (S : Sn) : ∀ k, (Zx S k).ks.length = S.ks.length + k
 | 0 => rfl
 | k + 1 => by show ((Zx S k).ks ++ [_]).length = _; rw [List.length_append, Qip S k]; rfl
def Sn.trim (S : Sn) (k : Nat) : Sn := ⟨S.r, S.w, S.o, S.sb, S.tb, S.s, S.t, S.n1, S.n2, S.n3, S.ks.drop k, S.hr, S.hw, S.ho, S.hs, S.ht⟩
def Qcb (S : Sn) (n : Int) : Bool := decide (1000 < n - S.n2)
def Qi5 (S : Sn) (n : Int) : Sn := (Zx S (n - S.n2).toNat).trim ((Zx S (n - S.n2).toNat).ks.length - 2000)
def Ze (S : Sn) (n : Int) : Sn := if Qcb S n then S else Qi5 S n
def Uc (S : Sn) (n : Int) : Int := if Qcb S n then 12 else 0
attribute [local irreducible] Qc5 Wu Eh Yg Jj Tc Wp Vd Wn Xk Ae F6 Qe Qi
set_option maxHeartbeats 2000000 in
theorem c_delK (v : Value) (l : List Kp) (Hs : List (Nat × Obj)) (i j : Int) (w0 : World) (R : Rest) (m0 : Mem w0 R (Hs ++ ([]))) (gv : Yz Jt 65 69 v l Hs) (hij : 0 ≤ i ∧ i ≤ j ∧ j ≤ l.length) (hll : l.length ≤ 1048576) : X9 prog 52 #[v, (i64 i), (i64 j)] w0 (fun r w1 => ∃ Hq, Yz Jt 65 69 r (l.take i.toNat ++ l.drop j.toNat) Hq ∧ Mem w1 R Hq) := by
 refine Zb (args := [v, (i64 i), (i64 j)]) func52 rfl ntmps52 results52 rfl <| sR <| Zz Yj ?_
 refine rN (sR ?_)
 refine Zp v <| Zp (i64 i) <| Zp (i64 j) <| Zp v <| Qd (Be (gv.rd m0) Gu rfl) <| Qd (Qmb (i := i) (j := j) (gv.rd m0) Gu Bz rfl rfl rfl rfl sL sL sL) ?_
 refine rN (Qa (sR ?_))
 refine Zp (i64 i) <| Zp (i64 j) <| Qd (Fb rfl rfl) <| rN ?_
 refine Z8 rfl (fun hc1 => ?_) (fun hc1 => ?_)
 ·
  have hc1p := eq_of_beq hc1
  refine sR <| Zp v <| Zz v ?_
  refine rN (Xb (Y3 ?_))
  refine Qv [v] ⟨rfl, trivial⟩ ?_
  exact ⟨Hs, Yz.cast gv (by rw [show j.toNat = i.toNat by omega, List.take_append_drop]), (by
   have hT := m0
   try simp only [List.append_assoc, List.cons_append, List.nil_append, List.append_nil] at hT ⊢
   exact hT)⟩
 ·
  have hc1p := ne_of_beq_false hc1
  refine Qs (Qc (sR ?_))
  refine Zp v <| Qd (Be (gv.rd m0) Gu rfl) <| Zz (i64 (l.length : Int)) ?_
  refine rN (Qa ?_)
  have hlp : 0 < l.length := by omega
  refine Xl (dl 6) 6 Xw <| Ky rfl v <| Ky rfl (i64 i) <| Yn rfl (fun _ e' => Rx (i := 0) (j := i) (gv.rd (m0.ext e')) Gu Bz rfl (Zi _ _) (Yh (k := .i64) (i := i) rfl) oM sL sL) <| Ky rfl v <| Ky rfl (i64 j) <| Yn rfl (fun _ e' => Rx (i := j) (j := (l.length : Int)) (gv.rd (m0.ext e')) Gu Bz rfl (Yh (k := .i64) (i := j) rfl) (Zi _ _) oM sL sL) <| Gs m0 fun w2 m2 => Vy (Qnf (enc := Jt) (k := 65) (Hs := Hs) (H := []) m2 (Yz.cutc (j := i) gv oM oM oM) rfl rfl (RdK.cast (l' := ((l.drop (j : Int).toNat).take (((l.length : Int) : Int).toNat - (j : Int).toNat))) (RdK.sub (i := j) (j := (l.length : Int)) (gv.rd m2) oM sL sL) rfl) Gu Gu Bz rfl (fun a _ => P6 a) sL) ?_
  rintro sv3 w3 ⟨Hs3, m3, g3⟩
  replace g3 : Sv Jt 65 69 sv3 ((l.take i.toNat) ++ ((l.drop (j : Int).toNat).take (((l.length : Int) : Int).toNat - (j : Int).toNat))) Hs3 ((l.length - i.toNat) - ((l.drop (j : Int).toNat).take (((l.length : Int) : Int).toNat - (j : Int).toNat)).length) := g3
  refine Zz sv3 ?_
  refine rN (sR ?_)
  refine Zp sv3 <| Zp sv3 <| Qd (Be ((Sv.grow g3).rd m3) Gu rfl) <| Zp (i64 (l.length : Int)) <| Qd (Qnv (i := (((l.take i.toNat) ++ ((l.drop (j : Int).toNat).take (((l.length : Int) : Int).toNat - (j : Int).toNat))).length : Int)) (j := (l.length : Int)) g3 Gu Bz rfl rfl rfl sL sL sL) <| Vk (Qom (j := (l.length : Int)) (Hs := Hs3) (H := []) m3 g3 rfl Gu Bz Xw Xw sL sL) ?_
  rintro _ w4 ⟨Hs4, m4, g4⟩
  refine rN (sR ?_)
  refine Zp sv3 <| Zz sv3 ?_
  refine rN (Xb ?_)
  refine Qv [sv3] ⟨rfl, trivial⟩ ?_
  exact ⟨Hs4, Yz.cast g4 (by first | rfl | (simp; done) | (congr 1; exact List.take_of_length_le X7)), (by
   have hT := m4
   try simp only [List.append_assoc, List.cons_append, List.nil_append, List.append_nil] at hT ⊢
   exact hT)⟩
end Go.Proofs.YtkmiemlpfkfiiaaDoor
