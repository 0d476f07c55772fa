/- The framework, part S: a row of whatever bytes (internal/bytealg.MakeNoZero), copies into the middle of an own row, slices of an array inside a struct, equality of structs of arrays. Conditions: none. -/
import Derived.Test.YtmiagmbgfhakgaaFwR
import Derived.Lib.MakeNoZero
namespace Go.Proofs.Ytmiagmbgfhakgaa
set_option linter.unusedSimpArgs false
set_option linter.unusedVariables false

theorem digits_cl : ∀ (n t : Nat) (m : List (BitVec 8)), ∃ q : List (BitVec 8), q.length = n ∧ Extern.BytealgMakeNoZero.digits n t (cl u8 m) = cl u8 (m ++ q)
  | 0, t, m => ⟨[], rfl, by rw [List.append_nil]; rfl⟩
  | n + 1, t, m => by
    obtain ⟨q, h1, h2⟩ := digits_cl n (t / 256) (m ++ [BitVec.ofNat 8 t])
    refine ⟨BitVec.ofNat 8 t :: q, by simp [h1], ?_⟩
    rw [Extern.BytealgMakeNoZero.digits]
    have e : (cl u8 m).push (.int .u8 (Int.ofNat (t % 256))) = cl u8 (m ++ [BitVec.ofNat 8 t]) := by
      apply Array.ext'
      simp [cl, u8]
    rw [e, h2, List.append_assoc]; rfl
section
variable {P : Program} {fr : Nat → Value} {w : World} {ty T U E A : TypeId} {x y : Operand} {R : Rest} {H Hs : List (Nat × Obj)}
theorem run_noZero (ps : Array TypeId) (t e : TypeId) (ht : P.underlying t = some (.slice e)) (n : Nat) (hn : n ≤ 281474976710656) :
    ∃ m : List (BitVec 8), n ≤ m.length ∧ (Extern.BytealgMakeNoZero.makeNoZero ps #[t] #[.int .i64 n]).run P w = .ok (.slice (some ⟨w.heap.size, 0, none⟩) n m.length) (w.drew.drew.alloc (.cells (cl u8 m) e)) := by
  have key : ∃ k, (Extern.BytealgMakeNoZero.makeNoZero ps #[t] #[.int .i64 n]).run P w = .ok (.slice (some ⟨w.heap.size, 0, none⟩) n (Extern.BytealgMakeNoZero.digits (grownCap w n 0 e) k #[]).size) (w.drew.drew.alloc (.cells (Extern.BytealgMakeNoZero.digits (grownCap w n 0 e) k #[]) e)) := by
    have h1 : ¬ (n : Int) < 0 := by omega
    have h2 : ¬ (281474976710656 : Int) < (n : Int) := by omega
    have hdef : Extern.BytealgMakeNoZero.makeNoZero ps #[t] #[.int .i64 n] =
        (do
          let .slice elem ← underlying t | stuck _
          if (n : Int) < 0 || (n : Int) > 2 ^ 48 then runtimePanic _
          let cap ← choose (.appendCap (n : Int).toNat 0 elem)
          askRoom cap
          let bytes ← choose _
          let a ← newRow elem (Extern.BytealgMakeNoZero.digits cap bytes #[])
          pure (.slice (some a) (n : Int).toNat cap)) := rfl
    rw [hdef]
    simp [run_underlying ht, h1, h2, Question.forced, newRow, Lib.size_digits, grownCap]
    exact ⟨_, rfl⟩
  obtain ⟨k, hk⟩ := key
  obtain ⟨m, h3, h4⟩ := digits_cl (grownCap w n 0 e) k []
  have h5 : Extern.BytealgMakeNoZero.digits (grownCap w n 0 e) k #[] = cl u8 m := h4
  refine ⟨m, by rw [h3]; simpa using grownCap_ge w n 0 e, ?_⟩
  rw [hk, h5]; simp [cl]
theorem or_noZero {g : FuncId} {fn : Func} {ps : Array TypeId} {ts : Array TypeId} {i : Int} {n : Nat} (hm : Mem w R H) (hf : P.funcs[g]? = some fn) (hnm : (fn.name == "runtime.NumGoroutine") = false) (hb : fn.body.isNone = true) (hn : Extern.findNext fn = none) (he : Extern.find fn = some (Extern.BytealgMakeNoZero.makeNoZero ps #[T]))
    (hT : P.underlying T = some (.slice E)) (hx : evalF fr x = i64 i) (hi : i = (n : Int)) (hle : n ≤ 281474976710656) :
    OpR P fr w (.call ⟨.value (.func g), #[x], ts⟩) ty (fun v w' => ∃ m Hs, m.length = n ∧ Grow u8 E v m Hs ∧ Mem w' R (Hs ++ H)) := by
  subst hi
  obtain ⟨m, h1, h2⟩ := run_noZero (P := P) (w := w) ps T E hT n hle
  have h3 := run_callFunc_extern (P := P) hf hnm hb hn he #[i64 (n : Int)] w
  have h3' : (callFunc g #[i64 (n : Int)]).run P w = _ := h3
  simp only [i64] at h3'
  rw [h2] at h3'
  refine .inl ⟨slc w.heap.size 0 n m.length, w.drew.drew.alloc (.cells (cl u8 m) E), ?_, m.take n, [(w.heap.size, .cells (cl u8 m) E (0, 0))], by simp [h1], Grow.made u8 E _ m n h1, ?_⟩
  · have e : xop (evalF fr) (.call ⟨.value (.func g), #[x], ts⟩) ty = (do let d ← resolve (evalF fr) ⟨.value (.func g), #[x], ts⟩ ty; invoke d.target d.args) := rfl
    rw [e]
    have hg : evalF fr (.func g) = .func (.func g) #[] #[] := rfl
    simp only [Result.andThen] at h3'
    simp [resolve, hg, Deferred.ofValue, invoke, hx, i64, h3', slc]
  · exact Mem.alloc (w := w.drew.drew) hm.drew.drew _
theorem subv0 {α : Type} {f : α → Value} {v : Value} {l : List α} (g : Grow f E v l Hs) (hl : 0 < l.length) : v = subv v 0 (l.length : Int) := by
  rcases g with ⟨⟨a, rfl⟩, rfl, rfl⟩ | ⟨b, pre, sp, post, rfl, rfl⟩
  · simp at hl
  · have : ¬ l.length + sp.length = 0 := by omega
    simp [subv, slc, this, Addr.add]
theorem or_copy_grow {α : Type} {f : α → Value} {v u : Value} {d base ms : List α} {i j q : Int} {z : Option Value} {kb : Nat} {E' T' : TypeId} (hm : Mem w R (Hs ++ H)) (g : Grow f E' v (d ++ base.drop d.length) Hs) (hx : evalF fr x = subv v i j) (hi : i = (d.length : Int)) (hj : j = (base.length : Int)) (hy : evalF fr y = u) (hr : Rd (blks w) f u ms)
    (hT : P.underlying T = some (.slice E)) (hti : tinf P E = some (z, 1, kb)) (hf : ∀ a, (f a).oneCell' = true) (hlt : d.length < base.length) (hle : d.length + ms.length ≤ base.length) (hq : (ms.length : Int) = q) :
    OpR P fr w (.call ⟨.builtin .copy, #[x, y], #[T, T']⟩) ty (fun v' w' => v' = i64 q ∧ ∃ Hs', Grow f E' v ((d ++ ms) ++ base.drop (d ++ ms).length) Hs' ∧ Mem w' R (Hs' ++ H)) := by
  subst hq hi hj
  have hL : (d ++ base.drop d.length).length = base.length := by simp; omega
  rcases g with ⟨⟨a, rfl⟩, h0, rfl⟩ | ⟨b, pre, sp, post, rfl, rfl⟩
  · rw [h0] at hL; simp at hL; omega
  · have hcap : ¬ (base.length + sp.length = d.length) := by omega
    have hx2 : evalF fr x = slc b (pre.length + d.length) (base.length - d.length) (base.length + sp.length - d.length) := by
      rw [hx, hL]; simp [subv, slc, hcap, Addr.add]
    have hb : w.heap[b]? = some (.cells (pre ++ ((d ++ base.drop d.length).map f ++ (sp ++ post))).toArray E' (0, 0)) := hm.own (b, _) (by simp)
    have hmin : min ms.length (base.length - d.length) = ms.length := by omega
    have hsz : (pre ++ ((d ++ base.drop d.length).map f ++ (sp ++ post))).toArray.size = pre.length + (base.length + (sp.length + post.length)) := by
      simp only [List.size_toArray, List.length_append, List.length_map]; rw [← List.length_append, hL]
    refine (or_copy (T' := T') hx2 hy hr hT hti hf hb (by rw [hsz, hmin]; omega) (by simp)).mono ?_
    rintro v' w' ⟨h1, h2⟩
    rw [hmin, List.take_of_length_le (Nat.le_refl _)] at h2
    rw [hmin] at h1
    refine ⟨h1, [(b, .cells (pre ++ (((d ++ ms) ++ base.drop (d ++ ms).length).map f ++ (sp ++ post))).toArray E' (0, 0))], .inr ⟨b, pre, sp, post, ?_, rfl⟩, ?_⟩
    · have : ((d ++ ms) ++ base.drop (d ++ ms).length).length = (d ++ base.drop d.length).length := by simp; omega
      rw [this]
    · have e : ovr (pre ++ ((d ++ base.drop d.length).map f ++ (sp ++ post))).toArray (pre.length + d.length) (ms.map f) = (pre ++ (((d ++ ms) ++ base.drop (d ++ ms).length).map f ++ (sp ++ post))).toArray := by
        apply Array.ext'
        rw [ovr_toList _ _ _ (by rw [hsz, List.length_map]; omega)]
        have e1 : (pre ++ ((d ++ base.drop d.length).map f ++ (sp ++ post))) = (pre ++ d.map f) ++ ((base.drop d.length).map f ++ (sp ++ post)) := by simp
        have e2 : (pre ++ d.map f).length = pre.length + d.length := by simp
        simp only [e1, ← e2]
        rw [List.take_left, ← List.drop_drop, List.drop_left, List.length_map, List.drop_append_of_le_length (by rw [List.length_map, List.length_drop]; omega), ← List.map_drop, List.drop_drop]
        simp
      rw [e] at h2
      exact Mem.upd0 hm h2
theorem Rd.seg {α : Type} {f : α → Value} {m : Nat → Option Obj} {b off n : Nat} {l : List α} {fz : Nat × Nat} (L1 L2 : List (List Value)) (hb : m b = some (.cells (segs (L1 ++ (l.map f :: L2))) E fz)) (h1 : L1.flatten.length = off) (hl : l.length = n) : Rd m f (slc b off n n) l := by
  subst hl h1
  refine Rd.mk' (Nat.le_refl _) hb fun i hi => ?_
  simp only [segs, List.flatten_append, List.flatten_cons, List.getElem?_toArray]
  rw [List.getElem?_append_right (by omega), Nat.add_sub_cancel_left, List.getElem?_append_left (by simpa using hi)]
  simp [hi]
theorem Rd.segA {α : Type} {f : α → Value} {m : Nat → Option Obj} {b off n : Nat} {j : Int} {l : List α} {fz : Nat × Nat} (L1 L2 : List (List Value)) (hb : m b = some (.cells (segs (L1 ++ (l.map f :: L2))) E fz)) (h1 : L1.flatten.length = off) (hl : l.length = n) (hn : 0 < n) (hj : j.toNat = n) : Rd m f (Proofs.Ytmiagmbgfhakgaa.sla b off 1 0 j n) l := by
  have e : Proofs.Ytmiagmbgfhakgaa.sla b off 1 0 j n = slc b off n n := by
    unfold Proofs.Ytmiagmbgfhakgaa.sla
    have : ¬ n = 0 := by omega
    simp [this, hj]
  rw [e]; exact Rd.seg L1 L2 hb h1 hl
theorem run_eq_u8' {d : Nat} {a b : BitVec 8} (hE : P.underlying E = some (.int .u8)) : (Op.equalIn (d + 1) E (u8 a) (u8 b)).run P w = .ok (a == b) w := by
  have := run_equalIn_int w d E .u8 .u8 (a.toNat : Int) (b.toNat : Int) hE
  unfold u8; rw [this]; congr 1
  rw [Bool.eq_iff_iff, beq_iff_eq, beq_iff_eq]
  constructor
  · intro h; exact BitVec.eq_of_toNat_eq (by omega)
  · rintro rfl; rfl
theorem run_part_seg {K : TypeId} {dK : TypeDesc} {z : Option Value} {n kb off : Nat} (L1 L3 : List (List Value)) (l : List (BitVec 8)) (hu : P.underlying K = some dK) (hd : aggD dK = true) (hi : tinf P K = some (z, n, kb)) (h1 : L1.flatten.length = off) (hl : l.length = n) : (part K (segs (L1 ++ (l.map u8 :: L3))) off).run P w = .ok (agg u8 l) w := by
  have e := segs_extract L1 [l.map u8] L3 h1 (n := n) (by simpa using hl)
  rw [segs_one1] at e
  simp only [part, Sem.run_bind, run_isAgg hu, hd, Result.andThen_ok, if_true, run_sizeOf hi, Sem.run_pure, agg]
  rw [← e]; rfl
theorem run_eq_two {t K : TypeId} {f1 f2 : Field} {z zK : Option Value} {n kb kbK : Nat} {l1 l2 m1 m2 : List (BitVec 8)} (ht : P.underlying t = some (.struct #[f1, f2])) (hp : P.stoodInHeld t = false) (n1 : (f1.name == "_") = false) (n2 : (f2.name == "_") = false) (t1 : f1.type = K) (t2 : f2.type = K) (o1 : f1.offset = 0) (o2 : f2.offset = n)
    (hu : P.underlying K = some (.array n E)) (hiK : tinf P K = some (zK, n, kbK)) (hE : P.underlying E = some (.int .u8)) (hi : tinf P E = some (z, 1, kb)) (a1 : l1.length = n) (a2 : l2.length = n) (b1 : m1.length = n) (b2 : m2.length = n) :
    (Op.equalIn (9999 + 1) t (.agg (segs [l1.map u8, l2.map u8])) (.agg (segs [m1.map u8, m2.map u8]))).run P w = .ok (l1 == m1 && l2 == m2) w := by
  have hf : P.fieldsOf t = #[f1, f2] := by unfold Program.fieldsOf; simp [ht]
  rw [run_equalIn_struct w 9999 t _ _ (by rw [hf]; exact ht) hp, hf]
  have p1 := run_part_seg (P := P) (w := w) [] [l2.map u8] l1 hu rfl hiK (off := 0) rfl a1
  have p2 := run_part_seg (P := P) (w := w) [] [m2.map u8] m1 hu rfl hiK (off := 0) rfl b1
  have p3 := run_part_seg (P := P) (w := w) [l1.map u8] [] l2 hu rfl hiK (off := n) (by simpa using a1) a2
  have p4 := run_part_seg (P := P) (w := w) [m1.map u8] [] m2 hu rfl hiK (off := n) (by simpa using b1) b2
  simp only [List.nil_append, List.singleton_append] at p1 p2 p3 p4
  have q1 : (Op.equalIn 9999 K (agg u8 l1) (agg u8 m1)).run P w = .ok (l1 == m1) w := run_equalIn_arr (P := P) (w := w) (d := 9998) hu hi hE rfl (fun a b => run_eq_u8' hE) a1 b1
  have q2 : (Op.equalIn 9999 K (agg u8 l2) (agg u8 m2)).run P w = .ok (l2 == m2) w := run_equalIn_arr (P := P) (w := w) (d := 9998) hu hi hE rfl (fun a b => run_eq_u8' hE) a2 b2
  have n1' : f1.name ≠ "_" := by simpa using n1
  have n2' : f2.name ≠ "_" := by simpa using n2
  simp only [Op.eqFields, t1, t2, o1, o2, if_pos n1', if_pos n2', ne_eq, n1', n2', not_false_eq_true, if_true, Sem.run_bind, p1, p2, p3, p4, Result.andThen_ok, q1, q2]
  cases l1 == m1 <;> cases h2 : l2 == m2 <;> simp [p3, p4, q2, h2]
theorem ev_two_eql {t t' K : TypeId} {f1 f2 : Field} {z zK : Option Value} {n kb kbK : Nat} {l1 l2 m1 m2 : List (BitVec 8)} (ht : P.underlying t = some (.struct #[f1, f2])) (hp : P.stoodInHeld t = false) (n1 : (f1.name == "_") = false) (n2 : (f2.name == "_") = false) (t1 : f1.type = K) (t2 : f2.type = K) (o1 : f1.offset = 0) (o2 : f2.offset = n)
    (hu : P.underlying K = some (.array n E)) (hiK : tinf P K = some (zK, n, kbK)) (hE : P.underlying E = some (.int .u8)) (hi : tinf P E = some (z, 1, kb)) (hg : P.eqGuardType P.depth t = false) (hx : evalF fr x = .agg (segs [l1.map u8, l2.map u8])) (hy : evalF fr y = .agg (segs [m1.map u8, m2.map u8])) (a1 : l1.length = n) (a2 : l2.length = n) (b1 : m1.length = n) (b2 : m2.length = n) :
    EvQ P fr w (.binOp .eql t x y t') ty (bl (l1 == m1 && l2 == m2)) := ev_eql_of hg (run_eq_two ht hp n1 n2 t1 t2 o1 o2 hu hiK hE hi a1 a2 b1 b2) hx hy
theorem ev_two_neq {t t' K : TypeId} {f1 f2 : Field} {z zK : Option Value} {n kb kbK : Nat} {l1 l2 m1 m2 : List (BitVec 8)} (ht : P.underlying t = some (.struct #[f1, f2])) (hp : P.stoodInHeld t = false) (n1 : (f1.name == "_") = false) (n2 : (f2.name == "_") = false) (t1 : f1.type = K) (t2 : f2.type = K) (o1 : f1.offset = 0) (o2 : f2.offset = n)
    (hu : P.underlying K = some (.array n E)) (hiK : tinf P K = some (zK, n, kbK)) (hE : P.underlying E = some (.int .u8)) (hi : tinf P E = some (z, 1, kb)) (hg : P.eqGuardType P.depth t = false) (hx : evalF fr x = .agg (segs [l1.map u8, l2.map u8])) (hy : evalF fr y = .agg (segs [m1.map u8, m2.map u8])) (a1 : l1.length = n) (a2 : l2.length = n) (b1 : m1.length = n) (b2 : m2.length = n) :
    EvQ P fr w (.binOp .neq t x y t') ty (bl (!(l1 == m1 && l2 == m2))) := ev_neq_of hg (run_eq_two ht hp n1 n2 t1 t2 o1 o2 hu hiK hE hi a1 a2 b1 b2) hx hy
end
end Go.Proofs.Ytmiagmbgfhakgaa
