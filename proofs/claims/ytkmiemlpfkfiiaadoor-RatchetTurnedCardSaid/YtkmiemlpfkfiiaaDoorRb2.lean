/- The ratchet: sessions as records, deletions. Conditions: none beyond those that each theorem states. -/
import Derived.Test.YtkmiemlpfkfiiaaDoorFwW
namespace Go.Proofs.YtkmiemlpfkfiiaaDoor
open Builtin renaming zeroCells → cZ
open List renaming append_assoc → aQ, append_nil → aZ, cons_append → aW, length_append → ag, nil_append → aX, replicate → aA
open Tryd
set_option linter.unusedVariables false
set_option linter.unusedSimpArgs false
section
variable {α : Type} {enc : α → List Value} {k E : Nat} {v : Value} {l : List α} {Hs H : List (Nat × Obj)} {w : World} {R : Rest}
def S9 (enc : α → List Value) (k E : Nat) (v : Value) (l : List α) (Hs : List (Nat × Obj)) (c : Nat) : Prop :=
 (∀ a ∈ l, (enc a).length = k) ∧ ∃ (b : Nat) (pre sp post : List Value) (ns : Nat), sp.length = ns * k ∧ c ≤ ns ∧ v = Wi b pre.length l.length (l.length + ns) ∧ Hs = [(b, .cells (pre ++ (l.flatMap enc ++ (sp ++ post))).toArray E (0, 0))]
theorem S9.grow {c : Nat} (h : S9 enc k E v l Hs c) : Yu enc k E v l Hs := by
 obtain ⟨h0, b, pre, sp, post, ns, h1, _, h2, h3⟩ := h
 exact ⟨h0, .inr ⟨b, pre, sp, post, ns, h1, h2, h3⟩⟩
theorem S9.cast {l' : List α} {c c' : Nat} (h : S9 enc k E v l Hs c) (e : l = l') (hc : c' ≤ c) : S9 enc k E v l' Hs c' := by
 subst e; obtain ⟨h0, b, pre, sp, post, ns, h1, h4, h2, h3⟩ := h
 exact ⟨h0, b, pre, sp, post, ns, h1, Nat.le_trans hc h4, h2, h3⟩
theorem Yu.cutc {j : Int} (hg : Yu enc k E v l Hs) (h0 : 0 ≤ j) (h1 : j ≤ l.length) (hl : 0 < l.length) : S9 enc k E (Pi v 0 j k) (l.take j.toNat) Hs (l.length - j.toNat) := by
 obtain ⟨hlen, ⟨_, rfl, _⟩ | ⟨b, pre, sp, post, ns, hsp, rfl, rfl⟩⟩ := hg
 ·simp at hl
 have hd2 : ((l.drop j.toNat).flatMap enc).length = (l.length - j.toNat) * k := by
  rw [U0 fun a ha => hlen a (List.mem_of_mem_drop ha)]; simp
 refine ⟨fun a ha => hlen a (List.mem_of_mem_take ha), b, pre, (l.drop j.toNat).flatMap enc ++ sp, post, (l.length - j.toNat) + ns, ?_, Nat.le_add_right _ _, ?_, ?_⟩
 ·rw [ag, hd2, hsp, Nat.add_mul]
 ·have hne : ¬ l.length + ns = (0 : Int).toNat := by intro h; have : (0 : Int).toNat = 0 := rfl; omega
  simp only [Pi, Wi, List.length_take]
  rw [if_neg hne]
  simp only [Option.map_some, Int.toNat_zero, Nat.zero_mul, Nat.sub_zero]
  rw [show min j.toNat l.length = j.toNat by omega]
  congr 1; omega
 have e5 : l.flatMap enc = (l.take j.toNat).flatMap enc ++ (l.drop j.toNat).flatMap enc := by rw [← List.flatMap_append, List.take_append_drop]
 rw [e5]; simp
end
section
variable {P : Program} {fr : Nat → Value} {w : World} {ty T T' E E' : TypeId} {x y : Operand} {kb k : Nat} {R : Rest} {H Hs : List (Nat × Obj)} {α : Type} {enc : α → List Value} {v : Value} {l : List α}
theorem kc_ovr {ms : List Value} {pre sp post : List Value} (hl : ∀ a ∈ l, (enc a).length = k) (n : Nat) (hm : ms.length = n * k) (hs : n * k ≤ sp.length) :
  ovr (pre ++ (l.flatMap enc ++ (sp ++ post))).toArray (pre.length + l.length * k + 0) ms = (pre ++ (l.flatMap enc ++ (ms ++ (sp.drop (n * k) ++ post)))).toArray := by
 have hll := U0 hl
 apply Array.ext'
 rw [Po _ _ _ (by simp [hll, hm]; omega)]
 have e0 : List.take (pre.length + l.length * k + 0) (pre ++ (l.flatMap enc ++ (sp ++ post))) = pre ++ l.flatMap enc := by
  rw [← aQ]; exact List.take_left' (by simp [hll])
 have e1 : List.drop (pre.length + l.length * k + 0 + ms.length) (pre ++ (l.flatMap enc ++ (sp ++ post))) = sp.drop (n * k) ++ post := by
  have e2 : pre ++ (l.flatMap enc ++ (sp ++ post)) = (pre ++ l.flatMap enc) ++ (sp ++ post) := by simp
  have e3 : pre.length + l.length * k + 0 + ms.length = (pre ++ l.flatMap enc).length + n * k := by simp [hll, hm]
  have e4 : ∀ (A B : List Value) (q : Nat), List.drop (A.length + q) (A ++ B) = List.drop q B := fun A B q => by rw [← List.drop_drop, List.drop_left]
  rw [e2, e3, e4, List.drop_append_of_le_length oM]
 rw [e0, e1]; simp
theorem Qot {zv u : Value} {ms : List α} {c : Nat} (hm : Mem w R (Hs ++ H)) (hg : S9 enc k E v l Hs c) (hx : Ql fr x = v) (hy : Ql fr y = u) (hr : RdK (Jd w) enc k u ms) (hT : P.underlying T = some (.slice E)) (hT' : P.underlying T' = some (.slice E'))
  (hi : Ji P E = some (some zv, k, kb)) (hk0 : Nat.blt 0 k = true) (hf : ∀ a ∈ ms, (enc a).all (·.oneCell') = true) (hc : ms.length ≤ c) :
  Vf P fr w (.call ⟨.builtin .append, #[x, y], #[T, T']⟩) ty (fun v' w' => ∃ Hs', Mem w' R (Hs' ++ H) ∧ S9 enc k E v' (l ++ ms) Hs' (c - ms.length)) := by
 have hk := Nat.le_of_ble_eq_true hk0
 obtain ⟨hl, b, pre, sp, post, ns, hsp, hcn, rfl, rfl⟩ := hg
 have hall : ∀ a ∈ l ++ ms, (enc a).length = k := fun a ha => by
  rcases List.mem_append.1 ha with h | h
  ·exact hl a h
  exact hr.len a h
 have hml := U0 hr.len
 have hll := U0 hl
 have hle : ms.length * k ≤ ns * k := Nat.mul_le_mul_right k oM
 have hb : w.heap[b]? = some (.cells (pre ++ (l.flatMap enc ++ (sp ++ post))).toArray E (0, 0)) := hm.own (b, .cells (pre ++ (l.flatMap enc ++ (sp ++ post))).toArray E (0, 0)) Ya
 obtain ⟨w', h1, h2⟩ := Ff (P := P) (ms.flatMap enc) 0 (pre.length + l.length * k) (pre ++ (l.flatMap enc ++ (sp ++ post))).toArray w hb (by simp [hll, hml, hsp]; omega) Ya (by
  intro u hu
  obtain ⟨a, ha0, ha⟩ := List.mem_flatMap.1 hu
  exact List.all_eq_true.1 (hf a ha0) u ha)
 have hrun := Qak (ty := ty) (w' := w') hk hx hy hr hT hT' hi (by omega : l.length + ms.length ≤ l.length + ns) (fun a' ha => by cases ha; rw [Vq]; exact h1) (fun h => by cases h)
 refine .inl ⟨_, _, hrun, [(b, .cells (pre ++ ((l ++ ms).flatMap enc ++ (sp.drop (ms.length * k) ++ post))).toArray E (0, 0))], ?_, hall, b, pre, sp.drop (ms.length * k), post, ns - ms.length, ?_, by omega, ?_, rfl⟩
 ·have h3 := Mem.upd (H1 := []) hm h2
  rw [kc_ovr hl ms.length hml (by rw [hsp]; exact hle)] at h3
  rw [List.flatMap_append, aQ]
  exact h3
 ·rw [List.length_drop, hsp, Nat.sub_mul]
 simp [Wi]; omega
theorem Qph {z : Option Value} {lo hi : Operand} {i j : Int} {c : Nat} (hg : S9 enc k E v l Hs c) (hu : P.underlying T = some (.slice E)) (hi' : Ji P E = some (z, k, kb)) (hx : Ql fr x = v) (hlo : Ql fr lo = i64 i) (hhi : Ql fr hi = i64 j) (h0 : 0 ≤ i) (h1 : i ≤ j) (h2 : j ≤ (l.length : Int) + c) :
  Jv P fr w (.slice T x (some lo) (some hi) none) ty (Pi v i j k) := by
 obtain ⟨_, b, pre, sp, post, ns, _, hcn, rfl, _⟩ := hg
 exact Qdn hu hi' hx (Yb (k := .i64) hlo) (Yb (k := .i64) hhi) h0 h1 oM
def sub3K (v : Value) (i j : Int) (n k : Nat) : Value := match v with | .slice a _ _ => .slice (if n = i.toNat then a else a.map (·.add (i.toNat * k))) (j.toNat - i.toNat) (n - i.toNat) | _ => undef
theorem Qnj {z : Option Value} {m : Nat → Option Obj} {lo hi mx : Operand} {i j : Int} (h : RdK m enc k v l) (hu : P.underlying T = some (.slice E)) (hi' : Ji P E = some (z, k, kb)) (hx : Ql fr x = v) (hlo : Ql fr lo = i64 i) (hhi : Ql fr hi = i64 j) (hmx : Ql fr mx = i64 (l.length : Int)) (h0 : 0 ≤ i) (h1 : i ≤ j) (h2 : j ≤ l.length) :
  Jv P fr w (.slice T x (some lo) (some hi) (some mx)) ty (sub3K v i j l.length k) := by
 obtain ⟨a, cap, rfl, hle, h4⟩ := h.is
 unfold Jv Lp
 show Sem.run P (do let v ← Instr.sliceAt T (Ql fr x) ((some lo).map (Ql fr)) ((some hi).map (Ql fr)) ((some mx).map (Ql fr)); pure (Next.value v)) w = _
 rw [hx]
 have hb1 : (Instr.sliceBound (i64 (l.length : Int)) cap .slice3Acap).run P w = .ok (l.length : Int).toNat w := Gw oM oM
 have hb2 : (Instr.sliceBound (i64 j) (l.length : Int).toNat .slice3B).run P w = .ok j.toNat w := Gw oM oM
 have hb3 : (Instr.sliceBound (i64 i) j.toNat .slice3C).run P w = .ok i.toNat w := Gw h0 oM
 simp only [Int.toNat_natCast] at hb1 hb2
 simp [Instr.sliceAt, Instr.slice, Instr.sliceBounds, W9 hu, hlo, hhi, hmx, hb1, hb2, hb3, J9 hi', sub3K]
theorem Qqa {zv : Value} {j : Int} {c : Nat} (hm : Mem w R (Hs ++ H)) (hg : S9 enc k E v l Hs c) (hx : Ql fr x = Pi v (l.length : Int) j k) (hT : P.underlying T = some (.slice E)) (hi : Ji P E = some (some zv, k, kb)) (hz : zv.cells.size = k) (hz1 : zv.cells.toList.all (·.oneCell') = true) (h1 : (l.length : Int) ≤ j) (h2 : j ≤ (l.length : Int) + c) :
  Vf P fr w (.call ⟨.builtin .clear, #[x], #[T]⟩) ty (fun _ w' => ∃ Hs', Mem w' R (Hs' ++ H) ∧ Yu enc k E v l Hs') := by
 have hg0 := hg.grow
 obtain ⟨hl, b, pre, sp, post, ns, hsp, hcn, rfl, rfl⟩ := hg
 have hrunx : ∀ w', (Builtin.clear_ #[T] ty #[Pi (Wi b pre.length l.length (l.length + ns)) (l.length : Int) j k]).run P w = .ok (.tuple #[]) w' → (Lp (Ql fr) (.call ⟨.builtin .clear, #[x], #[T]⟩) ty).run P w = .ok (.value (.tuple #[])) w' := by
  intro w' h
  rw [Ef]
  simp only [List.map_toArray, List.map_cons, List.map_nil, hx, builtin, Sem.run_bind]
  rw [h]; rfl
 by_cases hz0 : j = (l.length : Int)
 ·subst hz0
  refine .inl ⟨_, w, hrunx w ?_, _, hm, hg0⟩
  have e : Pi (Wi b pre.length l.length (l.length + ns)) (l.length : Int) (l.length : Int) k = .slice (if l.length + ns = ((l.length : Int)).toNat then some ⟨b, pre.length, none⟩ else (some (⟨b, pre.length, none⟩ : Addr)).map (·.add (((l.length : Int)).toNat * k))) 0 ns := by
   simp [Pi, Wi]
  rw [e]
  generalize (if l.length + ns = ((l.length : Int)).toNat then some (⟨b, pre.length, none⟩ : Addr) else (some (⟨b, pre.length, none⟩ : Addr)).map (·.add (((l.length : Int)).toNat * k))) = a0
  cases a0 <;> simp [Builtin.clear_, W9 hT]
 obtain ⟨n, hn⟩ : ∃ n : Nat, j = (l.length : Int) + (n + 1 : Nat) := ⟨(j - l.length - 1).toNat, by omega⟩
 subst hn
 have hll := U0 hl
 have e : Pi (Wi b pre.length l.length (l.length + ns)) (l.length : Int) ((l.length : Int) + (n + 1 : Nat)) k = .slice (some ⟨b, pre.length + l.length * k, none⟩) (n + 1) ns := by
  simp only [Pi, Wi]
  rw [if_neg (by simp; omega)]
  simp only [Option.map_some, Vq, Int.toNat_natCast]
  congr 1 <;> omega
 have hb : w.heap[b]? = some (.cells (pre ++ (l.flatMap enc ++ (sp ++ post))).toArray E (0, 0)) := hm.own (b, .cells (pre ++ (l.flatMap enc ++ (sp ++ post))).toArray E (0, 0)) Ya
 have hzs : (cZ zv.cells (n + 1)).toList.length = (n + 1) * k := by simp [cZ, hz]
 have hle : (n + 1) * k ≤ ns * k := Nat.mul_le_mul_right k oM
 obtain ⟨w', h3, h4⟩ := Ff (P := P) (cZ zv.cells (n + 1)).toList 0 (pre.length + l.length * k) (pre ++ (l.flatMap enc ++ (sp ++ post))).toArray w hb (by simp [hll, hzs, hsp]; omega) Ya (by
  intro u hu
  simp only [cZ, Array.toList_map, List.mem_map, Array.toList_range, List.mem_range] at hu
  obtain ⟨i, hi0, rfl⟩ := hu
  have hpos : 0 < zv.cells.size := Nat.pos_of_ne_zero fun h => by rw [h, Nat.mul_zero] at hi0; omega
  rw [getElem!_pos zv.cells (i % zv.cells.size) (Nat.mod_lt _ hpos)]
  exact List.all_eq_true.1 hz1 _ Ya)
 refine .inl ⟨_, w', hrunx w' ?_, [(b, .cells (pre ++ (l.flatMap enc ++ ((cZ zv.cells (n + 1)).toList ++ (sp.drop ((n + 1) * k) ++ post)))).toArray E (0, 0))], ?_, hl, .inr ⟨b, pre, (cZ zv.cells (n + 1)).toList ++ sp.drop ((n + 1) * k), post, ns, ?_, rfl, by simp⟩⟩
 ·rw [e]
  simp only [Builtin.clear_]
  simp [W9 hT, U8 hi, h3]
 ·have h5 := Mem.upd (H1 := []) hm h4
  rw [kc_ovr hl (n + 1) hzs (by rw [hsp]; exact hle)] at h5
  exact h5
 rw [ag, hzs, List.length_drop, hsp]; omega
end
def F7 (l : Z4) : Z4 := (l ++ aA 32 0#8).take 32
theorem Md (l : Z4) : (F7 l).length = 32 := by unfold F7; simp
theorem Ci {l : Z4} (h : l.length = 32) : F7 l = l := by unfold F7; rw [← h, List.take_left]
structure Sn where
 r : Z4
 w : Z4
 o : Z4
 sb : Bool
 tb : Bool
 s : Z4
 t : Z4
 n1 : Int
 n2 : Int
 n3 : Int
 ks : List Kp
 hr : r.length = 32
 hw : w.length = 32
 ho : o.length = 32
 hs : s.length = 32
 ht : t.length = 32
@[simp] theorem Sn.lr (S : Sn) : S.r.length = 32 := S.hr
@[simp] theorem Sn.lw (S : Sn) : S.w.length = 32 := S.hw
@[simp] theorem Sn.lo (S : Sn) : S.o.length = 32 := S.ho
@[simp] theorem Sn.ls (S : Sn) : S.s.length = 32 := S.hs
@[simp] theorem Sn.lt (S : Sn) : S.t.length = 32 := S.ht
theorem Sn.l5 (S : Sn) : S.r.length = 32 ∧ S.w.length = 32 ∧ S.o.length = 32 ∧ S.s.length = 32 ∧ S.t.length = 32 := ⟨S.hr, S.hw, S.ho, S.hs, S.ht⟩
abbrev sS (S : Sn) (v : Value) : List (List Value) := sE S.r S.w S.o S.sb S.tb S.s S.t S.n1 S.n2 S.n3 v
def Sn.one (S : Sn) : Sn := ⟨S.r, S.w, S.o, S.sb, S.tb, Xc S.s [2#8], S.t, S.n1 + 1, S.n2, S.n3, S.ks, S.hr, S.hw, S.ho, V6 _ _, S.ht⟩
def Lt (S : Sn) : Int := if S.sb then if S.n1 = 2147483647 then 12 else 0 else 13
def Qgq (S : Sn) : Sn := if Lt S = 0 then S.one else S
def Qb1 (S : Sn) (b p : Z4) : Z4 := if Lt S = 0 then Ba S.w S.s S.n3 S.n1 b p else []
theorem Qsp (S : Sn) : (Qgq S).ks = S.ks := by unfold Qgq; split <;> rfl
def Ea (ro ow ot : Z4) : Sn :=
 ⟨X8 ro (Zu ow ot), F7 ow, F7 ot, true, false, Y7 ro (Zu ow ot), aA 32 0, 0, 0, 0, [], Di _ _, Md _, Md _, Ec _ _, rfl⟩
def Xo (ro ow : Z4) : Sn :=
 ⟨F7 ro, F7 ow, aA 32 0, false, false, aA 32 0, aA 32 0, 0, 0, 0, [], Md _, Md _, rfl, rfl, rfl⟩
def Sn.skip (S : Sn) : Sn := ⟨S.r, S.w, S.o, S.sb, S.tb, S.s, Xc S.t [2#8], S.n1, S.n2 + 1, S.n3, S.ks ++ [⟨S.o, S.n2, Xc S.t [1#8], S.ho, V6 _ _⟩], S.hr, S.hw, S.ho, S.hs, V6 _ _⟩
def Zt (S : Sn) : Nat → Sn
 | 0 => S
 | k + 1 => (Zt S k).skip
theorem Qft (S : Sn) : ∀ k, (Zt S k).n2 = S.n2 + k
 | 0 => by simp [Zt]
 | k + 1 => by show (Zt S k).n2 + 1 = _; rw [Qft S k]; omega
theorem Qfu (S : Sn) : ∀ k, (Zt S k).ks.length = S.ks.length + k
 | 0 => rfl
 | k + 1 => by show ((Zt S k).ks ++ [_]).length = _; rw [ag, Qfu S k]; rfl
def Sn.trim (S : Sn) (k : Nat) : Sn := ⟨S.r, S.w, S.o, S.sb, S.tb, S.s, S.t, S.n1, S.n2, S.n3, S.ks.drop k, S.hr, S.hw, S.ho, S.hs, S.ht⟩
def Qar (S : Sn) (n : Int) : Bool := decide (1000 < n - S.n2)
def Qga (S : Sn) (n : Int) : Sn := (Zt S (n - S.n2).toNat).trim ((Zt S (n - S.n2).toNat).ks.length - 2000)
def Q9 (S : Sn) (n : Int) : Sn := if Qar S n then S else Qga S n
def G5 (S : Sn) (n : Int) : Int := if Qar S n then 12 else 0
attribute [local irreducible] Si We Eg X8 Y7 Ba Wh Wv Kw Xc Gv Gn Zu Yy
set_option maxHeartbeats 2000000 in
theorem c_delK (v : Value) (l : List Kp) (Hs : List (Nat × Obj)) (i j : Int) (w0 : World) (R : Rest) (m0 : Mem w0 R (Hs ++ ([]))) (gv : Yu Jl 65 69 v l Hs) (hij : 0 ≤ i ∧ i ≤ j ∧ j ≤ l.length) (hll : l.length ≤ 1048576) : Xz prog 52 #[v, (i64 i), (i64 j)] w0 (fun r w1 => ∃ Hq, Yu Jl 65 69 r (l.take i.toNat ++ l.drop j.toNat) Hq ∧ Mem w1 R Hq) := by
 refine Qz (args := [v, (i64 i), (i64 j)]) func52 rfl ntmps52 results52 rfl <| sR <| Zx J3 ?_
 refine rN (sR ?_)
 refine Zm v <| Zm (i64 i) <| Zm (i64 j) <| Zm v <| Qd (Bh (gv.rd m0) Gi rfl) <| Qd (Qnj (i := i) (j := j) (gv.rd m0) Gi Ac rfl rfl rfl rfl sL sL sL) ?_
 refine rN (Qa (sR ?_))
 refine Zm (i64 i) <| Zm (i64 j) <| Qd (G8 rfl rfl) <| rN ?_
 refine Zz rfl (fun hc1 => ?_) (fun hc1 => ?_)
 ·
  have hc1p := eq_of_beq hc1
  refine sR <| Zm v <| Zx v ?_
  refine rN (Z8 (Yz ?_))
  refine Qq [v] ⟨rfl, trivial⟩ ?_
  exact ⟨Hs, Yu.cast gv (by rw [show j.toNat = i.toNat by omega, List.take_append_drop]), (by
   have hT := m0
   try simp only [aQ, aW, aX, aZ] at hT ⊢
   exact hT)⟩
 ·
  have hc1p := ne_of_beq_false hc1
  refine Qo (Qc (sR ?_))
  refine Zm v <| Qd (Bh (gv.rd m0) Gi rfl) <| Zx (i64 (l.length : Int)) ?_
  refine rN (Qa ?_)
  have hlp : 0 < l.length := by omega
  refine Xi (dl 6) 6 Xv <| J7 rfl v <| J7 rfl (i64 i) <| Yj rfl (fun _ e' => Ru (i := 0) (j := i) (gv.rd (m0.ext e')) Gi Ac rfl (Zd _ _) (Yb (k := .i64) (i := i) rfl) oM sL sL) <| J7 rfl v <| J7 rfl (i64 j) <| Yj rfl (fun _ e' => Ru (i := j) (j := (l.length : Int)) (gv.rd (m0.ext e')) Gi Ac rfl (Yb (k := .i64) (i := j) rfl) (Zd _ _) oM sL sL) <| Gf m0 fun w2 m2 => Vr (Qot (enc := Jl) (k := 65) (Hs := Hs) (H := []) m2 (Yu.cutc (j := i) gv oM oM oM) rfl rfl (RdK.cast (l' := ((l.drop (j : Int).toNat).take (((l.length : Int) : Int).toNat - (j : Int).toNat))) (RdK.sub (i := j) (j := (l.length : Int)) (gv.rd m2) oM sL sL) rfl) Gi Gi Ac rfl (fun a _ => Pz a) sL) ?_
  rintro sv3 w3 ⟨Hs3, m3, g3⟩
  replace g3 : S9 Jl 65 69 sv3 ((l.take i.toNat) ++ ((l.drop (j : Int).toNat).take (((l.length : Int) : Int).toNat - (j : Int).toNat))) Hs3 ((l.length - i.toNat) - ((l.drop (j : Int).toNat).take (((l.length : Int) : Int).toNat - (j : Int).toNat)).length) := g3
  refine Zx sv3 ?_
  refine rN (sR ?_)
  refine Zm sv3 <| Zm sv3 <| Qd (Bh ((S9.grow g3).rd m3) Gi rfl) <| Zm (i64 (l.length : Int)) <| Qd (Qph (i := (((l.take i.toNat) ++ ((l.drop (j : Int).toNat).take (((l.length : Int) : Int).toNat - (j : Int).toNat))).length : Int)) (j := (l.length : Int)) g3 Gi Ac rfl rfl rfl sL sL sL) <| Vd (Qqa (j := (l.length : Int)) (Hs := Hs3) (H := []) m3 g3 rfl Gi Ac Xv Xv sL sL) ?_
  rintro _ w4 ⟨Hs4, m4, g4⟩
  refine rN (sR ?_)
  refine Zm sv3 <| Zx sv3 ?_
  refine rN (Z8 ?_)
  refine Qq [sv3] ⟨rfl, trivial⟩ ?_
  exact ⟨Hs4, Yu.cast g4 (by first | rfl | (simp; done) | (congr 1; exact List.take_of_length_le Ya)), (by
   have hT := m4
   try simp only [aQ, aW, aX, aZ] at hT ⊢
   exact hT)⟩
end Go.Proofs.YtkmiemlpfkfiiaaDoor
