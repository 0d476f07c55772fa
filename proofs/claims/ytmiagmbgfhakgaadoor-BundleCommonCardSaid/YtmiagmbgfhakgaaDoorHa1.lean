/- Contracts: hash, first part. Conditions: none beyond those that each theorem states. -/
import Derived.Test.YtmiagmbgfhakgaaDoorTab
import Derived.Test.YtmiagmbgfhakgaaDoorFwM
namespace Go.Proofs.YtmiagmbgfhakgaaDoor
set_option linter.unusedVariables false
set_option linter.unusedSimpArgs false

def rotl32 (x : BitVec 32) (k : Int) : BitVec 32 := (x <<< (BitVec.ofInt 64 k &&& 31#64).toNat) ||| (x >>> (32#64 - (BitVec.ofInt 64 k &&& 31#64)).toNat)
def startL : List (BitVec 32) := [1779033703#32, 3144134277#32, 1013904242#32, 2773480762#32, 1359893119#32, 2600822924#32, 528734635#32, 1541459225#32]
def roundL : List (BitVec 32) := [1116352408#32, 1899447441#32, 3049323471#32, 3921009573#32, 961987163#32, 1508970993#32, 2453635748#32, 2870763221#32, 3624381080#32, 310598401#32, 607225278#32, 1426881987#32, 1925078388#32, 2162078206#32, 2614888103#32, 3248222580#32, 3835390401#32, 4022224774#32, 264347078#32, 604807628#32, 770255983#32, 1249150122#32, 1555081692#32, 1996064986#32, 2554220882#32, 2821834349#32, 2952996808#32, 3210313671#32, 3336571891#32, 3584528711#32, 113926993#32, 338241895#32, 666307205#32, 773529912#32, 1294757372#32, 1396182291#32, 1695183700#32, 1986661051#32, 2177026350#32, 2456956037#32, 2730485921#32, 2820302411#32, 3259730800#32, 3345764771#32, 3516065817#32, 3600352804#32, 4094571909#32, 275423344#32, 430227734#32, 506948616#32, 659060556#32, 883997877#32, 958139571#32, 1322822218#32, 1537002063#32, 1747873779#32, 1955562222#32, 2024104815#32, 2227730452#32, 2361852424#32, 2428436474#32, 2756734187#32, 3204031479#32, 3329325298#32]
@[simp] theorem roundL_length : roundL.length = 64 := rfl
/-- The tables of the package. -/
structure Tabs (m : Nat → Option Obj) : Prop where
  start : ∃ E fz, m 0 = some (.cells (cl u32 [1779033703#32, 3144134277#32, 1013904242#32, 2773480762#32, 1359893119#32, 2600822924#32, 528734635#32, 1541459225#32]) E fz)
  round : ∃ E fz, m 1 = some (.cells (cl u32 roundL) E fz)
theorem Tabs.mono {m m' : Nat → Option Obj} (h : Tabs m) (hm : ∀ b o, m b = some o → m' b = some o) : Tabs m' :=
  ⟨let ⟨E, fz, e⟩ := h.start; ⟨E, fz, hm _ _ e⟩, let ⟨E, fz, e⟩ := h.round; ⟨E, fz, hm _ _ e⟩⟩
def be4 (a b c d : BitVec 8) : BitVec 32 := (((0#32 <<< 8 ||| a.setWidth 32) <<< 8 ||| b.setWidth 32) <<< 8 ||| c.setWidth 32) <<< 8 ||| d.setWidth 32
def schedWord (l : List (BitVec 8)) (w : List (BitVec 32)) (k : Nat) : BitVec 32 :=
  if k < 16 then be4 (l.getD (4 * k) 0) (l.getD (4 * k + 1) 0) (l.getD (4 * k + 2) 0) (l.getD (4 * k + 3) 0)
  else (w.getD (k - 16) 0 + w.getD (k - 7) 0) + ((rotl32 (w.getD (k - 15) 0) (-7) ^^^ rotl32 (w.getD (k - 15) 0) (-18)) ^^^ (w.getD (k - 15) 0) >>> 3)
    + ((rotl32 (w.getD (k - 2) 0) (-17) ^^^ rotl32 (w.getD (k - 2) 0) (-19)) ^^^ (w.getD (k - 2) 0) >>> 10)
def schedGo (l : List (BitVec 8)) : Nat → List (BitVec 32)
  | 0 => List.replicate 64 0
  | k + 1 => (schedGo l k).set k (schedWord l (schedGo l k) k)
@[simp] theorem schedGo_length (l : List (BitVec 8)) (k : Nat) : (schedGo l k).length = 64 := by
  induction k with
  | zero => simp [schedGo]
  | succ k ih => simp [schedGo, ih]
theorem schedGo_fresh (l : List (BitVec 8)) : ∀ (k j : Nat), k ≤ j → (schedGo l k).getD j 0 = 0 := by
  intro k
  induction k with
  | zero =>
    intro j _
    simp only [schedGo, List.getD_eq_getElem?_getD, List.getElem?_replicate]
    split <;> rfl
  | succ k ih =>
    intro j h
    have := ih j oM
    simp only [schedGo, List.getD_eq_getElem?_getD, List.getElem?_set] at this ⊢
    rw [if_neg oM]; exact this
theorem getD_set_self {α : Type} (l : List α) (k : Nat) (a z : α) (h : k < l.length) : (l.set k a).getD k z = a := by simp [List.getD_eq_getElem?_getD, h]
theorem sched_first (l : List (BitVec 8)) (k : Nat) (h : k < 16) (a b c d : BitVec 8) (ha : a = l.getD (4 * k) 0) (hb : b = l.getD (4 * k + 1) 0) (hc : c = l.getD (4 * k + 2) 0) (hd : d = l.getD (4 * k + 3) 0) (w : List (BitVec 32)) (hw : w = schedGo l k) :
    (((w.set k (w.getD k 0 <<< 8 ||| a.setWidth 32)).set k ((w.set k (w.getD k 0 <<< 8 ||| a.setWidth 32)).getD k 0 <<< 8 ||| b.setWidth 32)).set k
      (((w.set k (w.getD k 0 <<< 8 ||| a.setWidth 32)).set k ((w.set k (w.getD k 0 <<< 8 ||| a.setWidth 32)).getD k 0 <<< 8 ||| b.setWidth 32)).getD k 0 <<< 8 ||| c.setWidth 32)).set k
      ((((w.set k (w.getD k 0 <<< 8 ||| a.setWidth 32)).set k ((w.set k (w.getD k 0 <<< 8 ||| a.setWidth 32)).getD k 0 <<< 8 ||| b.setWidth 32)).set k
      (((w.set k (w.getD k 0 <<< 8 ||| a.setWidth 32)).set k ((w.set k (w.getD k 0 <<< 8 ||| a.setWidth 32)).getD k 0 <<< 8 ||| b.setWidth 32)).getD k 0 <<< 8 ||| c.setWidth 32)).getD k 0 <<< 8 ||| d.setWidth 32) = schedGo l (k + 1) := by
  subst hw ha hb hc hd
  simp only [schedGo, List.set_set]
  rw [getD_set_self _ _ _ _ (by simp; omega), getD_set_self _ _ _ _ (by simp; omega), getD_set_self _ _ _ _ (by simp; omega), schedGo_fresh l k k (Nat.le_refl _)]
  unfold schedWord
  rw [if_pos h]; rfl
theorem sched_next (l : List (BitVec 8)) (k : Nat) (h : ¬ k < 16) (h2 : k < 64) (w : List (BitVec 32)) (hw : w = schedGo l k) (A B C : BitVec 32)
    (hA : A = w.getD (k - 16) 0 + w.getD (k - 7) 0) (hB : B = (rotl32 (w.getD (k - 15) 0) (-7) ^^^ rotl32 (w.getD (k - 15) 0) (-18)) ^^^ (w.getD (k - 15) 0) >>> 3)
    (hC : C = (rotl32 (w.getD (k - 2) 0) (-17) ^^^ rotl32 (w.getD (k - 2) 0) (-19)) ^^^ (w.getD (k - 2) 0) >>> 10) :
    ((w.set k A).set k ((w.set k A).getD k 0 + B)).set k (((w.set k A).set k ((w.set k A).getD k 0 + B)).getD k 0 + C) = schedGo l (k + 1) := by
  subst hw hA hB hC
  simp only [schedGo, List.set_set]
  rw [getD_set_self _ _ _ _ (by simp; omega), getD_set_self _ _ _ _ (by simp; omega)]
  unfold schedWord
  rw [if_neg h]
theorem four_at (l : List (BitVec 8)) (k : Nat) (h : 4 * k + 4 ≤ l.length) : (l.drop (4 * (k : Int)).toNat).take ((4 * (k : Int) + 4).toNat - (4 * (k : Int)).toNat) = [l.getD (4 * k) 0, l.getD (4 * k + 1) 0, l.getD (4 * k + 2) 0, l.getD (4 * k + 3) 0] := by
  have e1 : (4 * (k : Int)).toNat = 4 * k := by omega
  have e2 : (4 * (k : Int) + 4).toNat - (4 * (k : Int)).toNat = 4 := by omega
  rw [e2, e1]
  refine List.ext_getElem (by simp; omega) fun i h1 h2 => ?_
  simp only [List.length_cons, List.length_nil] at h2
  have : i = 0 ∨ i = 1 ∨ i = 2 ∨ i = 3 := by omega
  rcases this with rfl | rfl | rfl | rfl <;> simp [List.getD_eq_getElem?_getD] <;> rw [List.getElem?_eq_getElem oM] <;> rfl
def schedP (l : List (BitVec 8)) : List (BitVec 32) := schedGo l 64
@[simp] theorem schedP_length (l : List (BitVec 8)) : (schedP l).length = 64 := schedGo_length l 64
def rnd (w t : BitVec 32) : List (BitVec 32) → List (BitVec 32)
  | [a, z, c, e, f, g, h, k] =>
    let t1 := (((k + w) + t) + ((f &&& g) ^^^ (~~~f &&& h))) + ((rotl32 f (-6) ^^^ rotl32 f (-11)) ^^^ rotl32 f (-25))
    let u := (((a &&& z) ^^^ (a &&& c)) ^^^ (z &&& c)) + ((rotl32 a (-2) ^^^ rotl32 a (-13)) ^^^ rotl32 a (-22))
    [t1 + u, a, z, c, e + t1, f, g, h]
  | l => l
def rndsGo (wl : List (BitVec 32)) : Nat → List (BitVec 32) → List (BitVec 32)
  | 0, s => s
  | k + 1, s => rnd (wl.getD k 0) (roundL.getD k 0) (rndsGo wl k s)
def takeP (h : List (BitVec 32)) (l : List (BitVec 8)) : List (BitVec 32) := List.zipWith (· + ·) h (rndsGo (schedP l) 64 h)

theorem c_rotl32 (x : BitVec 32) (k : Int) (w0 : World)   : CallsR Tryd.prog 81 #[(u32 x), (i64 k)] w0 (fun r w1 => r = (u32 (rotl32 x k)) ∧ w1 = w0) := by
 refine callsR_of_cw (args := [(u32 x), (i64 k)]) Tryd.func81 rfl Tryd.ntmps81 Tryd.results81 rfl ?_
 have hm0 : Mem w0 (restOf w0) [] := Mem.of_world w0
 refine sR <| rw_q rfl (ev_assign (v := (u32 0#32)) rfl) ?_
 refine rN (sR ?_)
 refine rw_q rfl (ev_move (v := (i64 k)) rfl) <| rw_q rfl (ev_conv_i64_u64 ⟨_, uT3⟩ uT97 rfl) <| rw_q rfl (ev_u64_and (b := 31#64) rfl rfl) <| rw_q rfl (ev_assign (v := (u64 ((BitVec.ofInt 64 k) &&& 31#64))) rfl) ?_
 refine rN (sR ?_)
 refine rw_q rfl (ev_move (v := (u32 x)) rfl) <| rw_q rfl (ev_move (v := (u64 ((BitVec.ofInt 64 k) &&& 31#64))) rfl) <| rw_q rfl (ev_u32_shl rfl rfl oM) <| rw_q rfl (ev_move (v := (u32 x)) rfl) <| rw_q rfl (ev_move (v := (u64 ((BitVec.ofInt 64 k) &&& 31#64))) rfl) <| rw_q rfl (ev_u64_sub (a := 32#64) rfl rfl) ?_
 refine rw_q rfl (ev_u32_shr rfl rfl oM) <| rw_q rfl (ev_u32_or rfl rfl) <| rA rfl rfl ?_
 refine rN (cw_ret ?_)
 refine fnPost_ret [(u32 ((x <<< ((BitVec.ofInt 64 k) &&& 31#64).toNat) ||| (x >>> (32#64 - ((BitVec.ofInt 64 k) &&& 31#64)).toNat)))] ⟨rfl, trivial⟩ ?_
 exact ⟨rfl, rfl⟩

theorem c_hnew  (w0 : World)  (hT : Tabs (blks w0)) : CallsR Tryd.prog 41 #[] w0 (fun r w1 => ∃ b, r = ptr b 0 ∧ Mem w1 (restOf w0) [(b, .cells #[(u32 1779033703#32), (u32 3144134277#32), (u32 1013904242#32), (u32 2773480762#32), (u32 1359893119#32), (u32 2600822924#32), (u32 528734635#32), (u32 1541459225#32), (Value.slice none 0 0), (u64 0#64)] 96 (0, 0))]) := by
 refine callsR_of_cw (args := []) Tryd.func41 rfl Tryd.ntmps41 Tryd.results41 rfl ?_
 have hm0 : Mem w0 (restOf w0) [] := Mem.of_world w0
 obtain ⟨Es, fzs, hTs⟩ := hT.start
 obtain ⟨Er, fzr, hTr⟩ := hT.round
 refine sR <| rw_q rfl (ev_assign (v := (Value.pointer none)) rfl) ?_
 refine rN (sR ?_)
 refine rw_q (v := (agg u32 ([1779033703#32, 3144134277#32, 1013904242#32, 2773480762#32, 1359893119#32, 2600822924#32, 528734635#32, 1541459225#32]))) rfl (ev_loadA uT94 rfl ti94 rfl (hm0.rest _ _ hTs) sZ) <| rw_q rfl (ev_build_pt (c := #[(u32 1779033703#32), (u32 3144134277#32), (u32 1013904242#32), (u32 2773480762#32), (u32 1359893119#32), (u32 2600822924#32), (u32 528734635#32), (u32 1541459225#32), (Value.slice none 0 0), (u64 0)]) (pl := [(0, 8), (8, 1), (9, 1)]) ti96 uT96 (by kernel_rfl) (pm_cons (i := 0) (v := (agg u32 ([1779033703#32, 3144134277#32, 1013904242#32, 2773480762#32, 1359893119#32, 2600822924#32, 528734635#32, 1541459225#32]))) (cs := (cl u32 ([1779033703#32, 3144134277#32, 1013904242#32, 2773480762#32, 1359893119#32, 2600822924#32, 528734635#32, 1541459225#32]))) rfl rfl pm_nil) (by kernel_rfl)) <| rw_c rfl (or_boxX (cs := #[(u32 1779033703#32), (u32 3144134277#32), (u32 1013904242#32), (u32 2773480762#32), (u32 1359893119#32), (u32 2600822924#32), (u32 528734635#32), (u32 1541459225#32), (Value.slice none 0 0), (u64 0)]) hm0 rfl) ?_
 rintro _ w1 ⟨b3, rfl, _ew1, hm1⟩
 refine rw_q rfl (ev_assign (v := (ptr b3 0)) rfl) ?_
 refine rN (cw_ret ?_)
 refine fnPost_ret [(ptr b3 0)] ⟨rfl, trivial⟩ ?_
 exact ⟨b3, rfl, hm1⟩

theorem c_schedule (vb : Value) (l : List (BitVec 8)) (w0 : World)  (hr : Rd (blks w0) u8 vb l) (hl : l.length = 64) : CallsR Tryd.prog 80 #[vb] w0 (fun r w1 => r = (agg u32 (schedP l)) ∧ Ext w0 w1) := by
 refine callsR_of_cw (args := [vb]) Tryd.func80 rfl Tryd.ntmps80 Tryd.results80 rfl ?_
 have hm0 : Mem w0 (restOf w0) [] := Mem.of_world w0
 refine sR <| rw_c rfl (or_alloc_agg hm0 ti98) ?_
 rintro _ w1 ⟨b2, rfl, _ew1, hm1⟩
 refine rN (cw_seq (sR ?_))
 refine rw_q rfl (ev_move (v := (i64 0)) rfl) ?_
 refine rN (cw_block ?_)
 refine cw_loop (fun g wv => ∃ (k : Nat) (wl : List (BitVec 32)), (k ≤ 64) ∧ (wl = schedGo l k) ∧ g 0 = vb ∧ g 2 = (ptr b2 0) ∧ g 8 = (i64 (k : Int)) ∧ Mem wv (restOf w0) [(b2, .cells (cl u32 wl) 98 (0, 0))]) (fun g wv => (64 - RowKit.intOf (g 8)).toNat) ?_ ?_
 · exact ⟨0, _, oM, rfl, rfl, rfl, rfl, hm1⟩
 · rintro fr2 w3 ⟨k, wl, hk1, hw, s0, s2, s8, hm3⟩
   have z8 := s8
   have hwl : wl.length = 64 := by rw [hw]; simp
   refine sR <| rw_q rfl (ev_i64_lss (b := 64) s8 rfl) ?_
   refine rN (cw_seq ?_)
   refine cw_cond rfl (fun hc4 => ?_) (fun hc4 => ?_)
   · -- true
     have hc4p := of_decide_eq_true hc4
     refine cw_skip (kThen_normal (cw_seq (cw_block (sR ?_))))
     refine rM rfl s8 <| rw_q rfl (ev_assign (v := (i64 (k : Int))) rfl) ?_
     refine rN (cw_seq (sR ?_))
     refine rw_q rfl (ev_move (v := (i64 (k : Int))) rfl) <| rw_q rfl (ev_i64_lss (b := 16) rfl rfl) <| rN ?_
     refine cw_cond rfl (fun hc5 => ?_) (fun hc5 => ?_)
     · -- true
       have hc5p := of_decide_eq_true hc5
       refine cw_seq (sR ?_)
       refine rM rfl s0 <| rw_q rfl (ev_move (v := (i64 (k : Int))) rfl) <| rw_q rfl (ev_i64_mul (a := 4) rfl rfl oM oM) <| rw_q rfl (ev_move (v := (i64 (k : Int))) rfl) <| rw_q rfl (ev_i64_mul (a := 4) rfl rfl oM oM) <| rw_q rfl (ev_i64_add (b := 4) rfl rfl oM oM) ?_
       refine rw_q rfl (ev_slice_rd (i := 4 * (k : Int)) (j := 4 * (k : Int) + 4) (Rd.ofRest hr hm3) uT26 ti5 rfl (optI_some (k := .i64) (i := 4 * (k : Int)) rfl) (optI_some (k := .i64) (i := 4 * (k : Int) + 4) rfl) oM oM oM) <| rw_q (v := (i64 4)) rfl (ev_len_rd (l := [l.getD (4 * k) 0, l.getD (4 * k + 1) 0, l.getD (4 * k + 2) 0, l.getD (4 * k + 3) 0]) (Rd.cast (Rd.sub (Rd.ofRest hr hm3) oM oM oM) (four_at l k oM)) uT26 rfl) <| rw_q rfl (ev_move (v := (i64 0)) rfl) <| rN ?_
       refine CW.abs (fun g => g 0 = vb ∧ g 2 = (ptr b2 0) ∧ g 3 = (i64 (k : Int)) ∧ g 8 = (i64 (k : Int)) ∧ g 9 = (bl (decide ((k : Int) < 64))) ∧ g 12 = (bl (decide ((k : Int) < 16))) ∧ g 19 = (subv vb (4 * (k : Int)) (4 * (k : Int) + 4)) ∧ g 20 = (i64 4) ∧ g 21 = (i64 0) ∧ True) ⟨s0, s2, rfl, s8, rfl, rfl, rfl, rfl, rfl, trivial⟩ ?_
       rintro fr6 ⟨s0, s2, s3, s8, s9, s12, s19, s20, s21, _⟩
       refine cw_block <| cw_rounds 5 ?_
       refine cr_succ (sR ?_)
       refine rw_q rfl (ev_i64_lss (a := 0) (b := 4) s21 s20) ?_
       refine rN (cw_seq ?_)
       refine cw_cond_t rfl (by decide) ?_
       refine cw_skip (kThen_normal (cw_seq (cw_block (sR ?_))))
       refine rw_q rfl (ev_indexAddr_rdv (i := 0) (Rd.cast (Rd.sub (Rd.ofRest hr hm3) oM oM oM) (four_at l k oM)) uT26 ti5 s19 s21 oM (by simp)) <| rw_q (v := (u8 (l.getD (4 * k) 0))) rfl (ev_load_rdD (l := [l.getD (4 * k) 0, l.getD (4 * k + 1) 0, l.getD (4 * k + 2) 0, l.getD (4 * k + 3) 0]) (i := 0) (dflt := 0) (Rd.cast (Rd.sub (Rd.ofRest hr hm3) oM oM oM) (four_at l k oM)) uT5 rfl oM (by simp) rfl) <| rw_q rfl (ev_assign (v := (u8 (l.getD (4 * k) 0))) rfl) ?_
       refine rN (cw_region ?_)
       refine rM rfl s3 <| rM rfl s3 <| rw_q rfl (ev_ia_arr (r := k) oM uT98 ti55 s2 rfl oM sD) <| rw_q (v := (u32 (wl.getD k 0))) rfl (ev_load1 uT55 rfl rfl hm3.h0 (get_clD _ _ 0 sD)) <| rw_q rfl (ev_u32_shl (b := 8) rfl rfl oM) <| rw_q rfl (ev_move (v := (u8 (l.getD (4 * k) 0))) rfl) ?_
       refine rw_q rfl (ev_conv_u8_u32 ⟨_, uT5⟩ uT55 rfl) <| rw_q rfl (ev_u32_or rfl rfl) <| rw_q rfl (ev_ia_arr (r := k) oM uT98 ti55 s2 rfl oM sD) <| rw_n (or_store_cl (f := u32) (a := ((wl.getD k 0) <<< 8) ||| ((l.getD (4 * k) 0).setWidth 32)) u32_one ti55 rfl rfl hm3.h0 sD (.inl (Nat.zero_le _))) ?_
       rintro _ w7 uq7
       have hm7 := hm3.upd0 uq7
       refine rw_nil (kBlk_normal ?_)
       refine CW.abs (fun g => g 0 = vb ∧ g 2 = (ptr b2 0) ∧ g 3 = (i64 (k : Int)) ∧ g 5 = (u8 (l.getD (4 * k) 0)) ∧ g 8 = (i64 (k : Int)) ∧ g 9 = (bl (decide ((k : Int) < 64))) ∧ g 12 = (bl (decide ((k : Int) < 16))) ∧ g 19 = (subv vb (4 * (k : Int)) (4 * (k : Int) + 4)) ∧ g 20 = (i64 4) ∧ g 21 = (i64 0) ∧ g 22 = (bl true) ∧ True) ⟨s0, s2, s3, rfl, s8, s9, s12, s19, s20, s21, rfl, trivial⟩ ?_
       rintro fr8 ⟨s0, s2, s3, s5, s8, s9, s12, s19, s20, s21, s22, _⟩
       refine cw_region <| rw_q (v := (i64 1)) rfl (ev_i64_add (a := 0) (b := 1) s21 rfl oM oM) <| rw_q rfl (ev_move (v := (i64 1)) rfl) ?_
       refine rN (cr_succ (sR ?_))
       refine rw_q rfl (ev_i64_lss (a := 1) (b := 4) rfl s20) ?_
       refine rN (cw_seq ?_)
       refine cw_cond_t rfl (by decide) ?_
       refine cw_skip (kThen_normal (cw_seq (cw_block (sR ?_))))
       refine rw_q rfl (ev_indexAddr_rdv (i := 1) (Rd.cast (Rd.sub (Rd.ofRest hr hm7) oM oM oM) (four_at l k oM)) uT26 ti5 s19 rfl oM (by simp)) <| rw_q (v := (u8 (l.getD (4 * k + 1) 0))) rfl (ev_load_rdD (l := [l.getD (4 * k) 0, l.getD (4 * k + 1) 0, l.getD (4 * k + 2) 0, l.getD (4 * k + 3) 0]) (i := 1) (dflt := 0) (Rd.cast (Rd.sub (Rd.ofRest hr hm7) oM oM oM) (four_at l k oM)) uT5 rfl oM (by simp) rfl) <| rw_q rfl (ev_assign (v := (u8 (l.getD (4 * k + 1) 0))) rfl) ?_
       refine rN (cw_region ?_)
       refine rM rfl s3 <| rM rfl s3 <| rw_q rfl (ev_ia_arr (r := k) oM uT98 ti55 s2 rfl oM sD) <| rw_q (v := (u32 ((wl.set k (((wl.getD k 0) <<< 8) ||| ((l.getD (4 * k) 0).setWidth 32))).getD k 0))) rfl (ev_load1 uT55 rfl rfl hm7.h0 (get_clD _ _ 0 sD)) <| rw_q rfl (ev_u32_shl (b := 8) rfl rfl oM) <| rw_q rfl (ev_move (v := (u8 (l.getD (4 * k + 1) 0))) rfl) ?_
       refine rw_q rfl (ev_conv_u8_u32 ⟨_, uT5⟩ uT55 rfl) <| rw_q rfl (ev_u32_or rfl rfl) <| rw_q rfl (ev_ia_arr (r := k) oM uT98 ti55 s2 rfl oM sD) <| rw_n (or_store_cl (f := u32) (a := (((wl.set k (((wl.getD k 0) <<< 8) ||| ((l.getD (4 * k) 0).setWidth 32))).getD k 0) <<< 8) ||| ((l.getD (4 * k + 1) 0).setWidth 32)) u32_one ti55 rfl rfl hm7.h0 sD (.inl (Nat.zero_le _))) ?_
       rintro _ w9 uq9
       have hm9 := hm7.upd0 uq9
       refine rw_nil (kBlk_normal ?_)
       refine CW.abs (fun g => g 0 = vb ∧ g 2 = (ptr b2 0) ∧ g 3 = (i64 (k : Int)) ∧ g 5 = (u8 (l.getD (4 * k + 1) 0)) ∧ g 8 = (i64 (k : Int)) ∧ g 9 = (bl (decide ((k : Int) < 64))) ∧ g 12 = (bl (decide ((k : Int) < 16))) ∧ g 19 = (subv vb (4 * (k : Int)) (4 * (k : Int) + 4)) ∧ g 20 = (i64 4) ∧ g 21 = (i64 1) ∧ g 22 = (bl true) ∧ True) ⟨s0, s2, s3, rfl, s8, s9, s12, s19, s20, rfl, rfl, trivial⟩ ?_
       rintro fr10 ⟨s0, s2, s3, s5, s8, s9, s12, s19, s20, s21, s22, _⟩
       refine cw_region <| rw_q (v := (i64 2)) rfl (ev_i64_add (a := 1) (b := 1) s21 rfl oM oM) <| rw_q rfl (ev_move (v := (i64 2)) rfl) ?_
       refine rN (cr_succ (sR ?_))
       refine rw_q rfl (ev_i64_lss (a := 2) (b := 4) rfl s20) ?_
       refine rN (cw_seq ?_)
       refine cw_cond_t rfl (by decide) ?_
       refine cw_skip (kThen_normal (cw_seq (cw_block (sR ?_))))
       refine rw_q rfl (ev_indexAddr_rdv (i := 2) (Rd.cast (Rd.sub (Rd.ofRest hr hm9) oM oM oM) (four_at l k oM)) uT26 ti5 s19 rfl oM (by simp)) <| rw_q (v := (u8 (l.getD (4 * k + 2) 0))) rfl (ev_load_rdD (l := [l.getD (4 * k) 0, l.getD (4 * k + 1) 0, l.getD (4 * k + 2) 0, l.getD (4 * k + 3) 0]) (i := 2) (dflt := 0) (Rd.cast (Rd.sub (Rd.ofRest hr hm9) oM oM oM) (four_at l k oM)) uT5 rfl oM (by simp) rfl) <| rw_q rfl (ev_assign (v := (u8 (l.getD (4 * k + 2) 0))) rfl) ?_
       refine rN (cw_region ?_)
       refine rM rfl s3 <| rM rfl s3 <| rw_q rfl (ev_ia_arr (r := k) oM uT98 ti55 s2 rfl oM sD) <| rw_q (v := (u32 (((wl.set k (((wl.getD k 0) <<< 8) ||| ((l.getD (4 * k) 0).setWidth 32))).set k ((((wl.set k (((wl.getD k 0) <<< 8) ||| ((l.getD (4 * k) 0).setWidth 32))).getD k 0) <<< 8) ||| ((l.getD (4 * k + 1) 0).setWidth 32))).getD k 0))) rfl (ev_load1 uT55 rfl rfl hm9.h0 (get_clD _ _ 0 sD)) <| rw_q rfl (ev_u32_shl (b := 8) rfl rfl oM) <| rw_q rfl (ev_move (v := (u8 (l.getD (4 * k + 2) 0))) rfl) ?_
       refine rw_q rfl (ev_conv_u8_u32 ⟨_, uT5⟩ uT55 rfl) <| rw_q rfl (ev_u32_or rfl rfl) <| rw_q rfl (ev_ia_arr (r := k) oM uT98 ti55 s2 rfl oM sD) <| rw_n (or_store_cl (f := u32) (a := ((((wl.set k (((wl.getD k 0) <<< 8) ||| ((l.getD (4 * k) 0).setWidth 32))).set k ((((wl.set k (((wl.getD k 0) <<< 8) ||| ((l.getD (4 * k) 0).setWidth 32))).getD k 0) <<< 8) ||| ((l.getD (4 * k + 1) 0).setWidth 32))).getD k 0) <<< 8) ||| ((l.getD (4 * k + 2) 0).setWidth 32)) u32_one ti55 rfl rfl hm9.h0 sD (.inl (Nat.zero_le _))) ?_
       rintro _ w11 uq11
       have hm11 := hm9.upd0 uq11
       refine rw_nil (kBlk_normal ?_)
       refine CW.abs (fun g => g 0 = vb ∧ g 2 = (ptr b2 0) ∧ g 3 = (i64 (k : Int)) ∧ g 5 = (u8 (l.getD (4 * k + 2) 0)) ∧ g 8 = (i64 (k : Int)) ∧ g 9 = (bl (decide ((k : Int) < 64))) ∧ g 12 = (bl (decide ((k : Int) < 16))) ∧ g 19 = (subv vb (4 * (k : Int)) (4 * (k : Int) + 4)) ∧ g 20 = (i64 4) ∧ g 21 = (i64 2) ∧ g 22 = (bl true) ∧ True) ⟨s0, s2, s3, rfl, s8, s9, s12, s19, s20, rfl, rfl, trivial⟩ ?_
       rintro fr12 ⟨s0, s2, s3, s5, s8, s9, s12, s19, s20, s21, s22, _⟩
       refine cw_region <| rw_q (v := (i64 3)) rfl (ev_i64_add (a := 2) (b := 1) s21 rfl oM oM) <| rw_q rfl (ev_move (v := (i64 3)) rfl) ?_
       refine rN (cr_succ (sR ?_))
       refine rw_q rfl (ev_i64_lss (a := 3) (b := 4) rfl s20) ?_
       refine rN (cw_seq ?_)
       refine cw_cond_t rfl (by decide) ?_
       refine cw_skip (kThen_normal (cw_seq (cw_block (sR ?_))))
       refine rw_q rfl (ev_indexAddr_rdv (i := 3) (Rd.cast (Rd.sub (Rd.ofRest hr hm11) oM oM oM) (four_at l k oM)) uT26 ti5 s19 rfl oM (by simp)) <| rw_q (v := (u8 (l.getD (4 * k + 3) 0))) rfl (ev_load_rdD (l := [l.getD (4 * k) 0, l.getD (4 * k + 1) 0, l.getD (4 * k + 2) 0, l.getD (4 * k + 3) 0]) (i := 3) (dflt := 0) (Rd.cast (Rd.sub (Rd.ofRest hr hm11) oM oM oM) (four_at l k oM)) uT5 rfl oM (by simp) rfl) <| rw_q rfl (ev_assign (v := (u8 (l.getD (4 * k + 3) 0))) rfl) ?_
       refine rN (cw_region ?_)
       refine rM rfl s3 <| rM rfl s3 <| rw_q rfl (ev_ia_arr (r := k) oM uT98 ti55 s2 rfl oM sD) <| rw_q rfl (ev_load1 uT55 rfl rfl hm11.h0 (get_clD _ _ 0 sD)) <| rw_q rfl (ev_u32_shl (b := 8) rfl rfl oM) <| rw_q rfl (ev_move (v := (u8 (l.getD (4 * k + 3) 0))) rfl) ?_
       refine rw_q rfl (ev_conv_u8_u32 ⟨_, uT5⟩ uT55 rfl) <| rw_q rfl (ev_u32_or rfl rfl) <| rw_q rfl (ev_ia_arr (r := k) oM uT98 ti55 s2 rfl oM sD) <| rw_n (or_store_cl (f := u32) (a := (((((wl.set k (((wl.getD k 0) <<< 8) ||| ((l.getD (4 * k) 0).setWidth 32))).set k ((((wl.set k (((wl.getD k 0) <<< 8) ||| ((l.getD (4 * k) 0).setWidth 32))).getD k 0) <<< 8) ||| ((l.getD (4 * k + 1) 0).setWidth 32))).set k (((((wl.set k (((wl.getD k 0) <<< 8) ||| ((l.getD (4 * k) 0).setWidth 32))).set k ((((wl.set k (((wl.getD k 0) <<< 8) ||| ((l.getD (4 * k) 0).setWidth 32))).getD k 0) <<< 8) ||| ((l.getD (4 * k + 1) 0).setWidth 32))).getD k 0) <<< 8) ||| ((l.getD (4 * k + 2) 0).setWidth 32))).getD k 0) <<< 8) ||| ((l.getD (4 * k + 3) 0).setWidth 32)) u32_one ti55 rfl rfl hm11.h0 sD (.inl (Nat.zero_le _))) ?_
       rintro _ w13 uq13
       have hm13 := hm11.upd0 uq13
       refine rw_nil (kBlk_normal ?_)
       refine CW.abs (fun g => g 0 = vb ∧ g 2 = (ptr b2 0) ∧ g 3 = (i64 (k : Int)) ∧ g 5 = (u8 (l.getD (4 * k + 3) 0)) ∧ g 8 = (i64 (k : Int)) ∧ g 9 = (bl (decide ((k : Int) < 64))) ∧ g 12 = (bl (decide ((k : Int) < 16))) ∧ g 19 = (subv vb (4 * (k : Int)) (4 * (k : Int) + 4)) ∧ g 20 = (i64 4) ∧ g 21 = (i64 3) ∧ g 22 = (bl true) ∧ True) ⟨s0, s2, s3, rfl, s8, s9, s12, s19, s20, rfl, rfl, trivial⟩ ?_
       rintro fr14 ⟨s0, s2, s3, s5, s8, s9, s12, s19, s20, s21, s22, _⟩
       refine cw_region <| rw_q (v := (i64 4)) rfl (ev_i64_add (a := 3) (b := 1) s21 rfl oM oM) <| rw_q rfl (ev_move (v := (i64 4)) rfl) ?_
       refine rN (cr_succ (sR ?_))
       refine rw_q rfl (ev_i64_lss (a := 4) (b := 4) rfl s20) ?_
       refine rN (cw_seq ?_)
       refine cw_cond_f rfl (by decide) <| cw_exit ?_
       refine kThen_exit (kThen_exit (kBlk_hit ?_))
       refine cw_exit ?_
       refine kThen_exit (kBlk_hit ?_)
       refine cw_region <| rw_q rfl (ev_i64_add (b := 1) s8 rfl oM oM) <| rw_q rfl (ev_move (v := (i64 ((k : Int) + 1))) rfl) <| rN ?_
       have hwn : (((wl.set k (((wl.getD k 0) <<< 8) ||| ((l.getD (4 * k) 0).setWidth 32))).set k ((((wl.set k (((wl.getD k 0) <<< 8) ||| ((l.getD (4 * k) 0).setWidth 32))).getD k 0) <<< 8) ||| ((l.getD (4 * k + 1) 0).setWidth 32))).set k (((((wl.set k (((wl.getD k 0) <<< 8) ||| ((l.getD (4 * k) 0).setWidth 32))).set k ((((wl.set k (((wl.getD k 0) <<< 8) ||| ((l.getD (4 * k) 0).setWidth 32))).getD k 0) <<< 8) ||| ((l.getD (4 * k + 1) 0).setWidth 32))).getD k 0) <<< 8) ||| ((l.getD (4 * k + 2) 0).setWidth 32))).set k ((((((wl.set k (((wl.getD k 0) <<< 8) ||| ((l.getD (4 * k) 0).setWidth 32))).set k ((((wl.set k (((wl.getD k 0) <<< 8) ||| ((l.getD (4 * k) 0).setWidth 32))).getD k 0) <<< 8) ||| ((l.getD (4 * k + 1) 0).setWidth 32))).set k (((((wl.set k (((wl.getD k 0) <<< 8) ||| ((l.getD (4 * k) 0).setWidth 32))).set k ((((wl.set k (((wl.getD k 0) <<< 8) ||| ((l.getD (4 * k) 0).setWidth 32))).getD k 0) <<< 8) ||| ((l.getD (4 * k + 1) 0).setWidth 32))).getD k 0) <<< 8) ||| ((l.getD (4 * k + 2) 0).setWidth 32))).getD k 0) <<< 8) ||| ((l.getD (4 * k + 3) 0).setWidth 32)) = schedGo l (k + 1) := by
         exact sched_first l k oM (l.getD (4 * k) 0) (l.getD (4 * k + 1) 0) (l.getD (4 * k + 2) 0) (l.getD (4 * k + 3) 0) rfl rfl rfl rfl wl hw
       exact ⟨⟨k + 1, (((wl.set k (((wl.getD k 0) <<< 8) ||| ((l.getD (4 * k) 0).setWidth 32))).set k ((((wl.set k (((wl.getD k 0) <<< 8) ||| ((l.getD (4 * k) 0).setWidth 32))).getD k 0) <<< 8) ||| ((l.getD (4 * k + 1) 0).setWidth 32))).set k (((((wl.set k (((wl.getD k 0) <<< 8) ||| ((l.getD (4 * k) 0).setWidth 32))).set k ((((wl.set k (((wl.getD k 0) <<< 8) ||| ((l.getD (4 * k) 0).setWidth 32))).getD k 0) <<< 8) ||| ((l.getD (4 * k + 1) 0).setWidth 32))).getD k 0) <<< 8) ||| ((l.getD (4 * k + 2) 0).setWidth 32))).set k ((((((wl.set k (((wl.getD k 0) <<< 8) ||| ((l.getD (4 * k) 0).setWidth 32))).set k ((((wl.set k (((wl.getD k 0) <<< 8) ||| ((l.getD (4 * k) 0).setWidth 32))).getD k 0) <<< 8) ||| ((l.getD (4 * k + 1) 0).setWidth 32))).set k (((((wl.set k (((wl.getD k 0) <<< 8) ||| ((l.getD (4 * k) 0).setWidth 32))).set k ((((wl.set k (((wl.getD k 0) <<< 8) ||| ((l.getD (4 * k) 0).setWidth 32))).getD k 0) <<< 8) ||| ((l.getD (4 * k + 1) 0).setWidth 32))).getD k 0) <<< 8) ||| ((l.getD (4 * k + 2) 0).setWidth 32))).getD k 0) <<< 8) ||| ((l.getD (4 * k + 3) 0).setWidth 32)), oM, hwn, s0, s2, rfl, hm13⟩, meas rfl z8 oM oM⟩
     · -- false
       have hc5p := of_decide_eq_false hc5
       refine cw_skip (kThen_normal (cw_seq ?_))
       refine cw_draw [(0, false), (1, false), (2, false), (3, false), (4, false), (5, false), (6, false), (7, false), (8, false)] 9 (by kernel_rfl) <| dw_q rfl rfl (fun _ _hx => ev_move (v := (i64 (k : Int))) rfl) <| dw_q rfl rfl (fun _ _hx => ev_i64_sub (b := 15) rfl rfl oM oM) <| dw_q rfl rfl (fun _ _hx => ev_ia_arr (r := ((k : Int) - 15 : Int).toNat) oM uT98 ti55 s2 rfl oM sD) <| dw_q (v := (u32 (wl.getD (((k : Int) - 15 : Int).toNat) 0))) rfl rfl (fun _ _hx => ev_load1 uT55 rfl rfl (hm3.ext _hx).h0 (get_clD _ _ 0 sD)) <| dw_q rfl rfl (fun _ _hx => ev_move (v := (i64 (k : Int))) rfl) ?_
       refine dw_q rfl rfl (fun _ _hx => ev_i64_sub (b := 2) rfl rfl oM oM) <| dw_q rfl rfl (fun _ _hx => ev_ia_arr (r := ((k : Int) - 2 : Int).toNat) oM uT98 ti55 s2 rfl oM sD) <| dw_q (v := (u32 (wl.getD (((k : Int) - 2 : Int).toNat) 0))) rfl rfl (fun _ _hx => ev_load1 uT55 rfl rfl (hm3.ext _hx).h0 (get_clD _ _ 0 sD)) <| dw_q rfl rfl (fun _ _hx => ev_assign (v := (u32 (wl.getD (((k : Int) - 15 : Int).toNat) 0))) rfl) ?_
       refine dw_nil (fun w15 _ew15 => ?_)
       have hm15 := hm3.ext _ew15
       refine rw_q rfl (ev_assign (v := (u32 (wl.getD (((k : Int) - 2 : Int).toNat) 0))) rfl) <| rN ?_
       refine CW.abs (fun g => g 0 = vb ∧ g 2 = (ptr b2 0) ∧ g 3 = (i64 (k : Int)) ∧ g 6 = (u32 (wl.getD (((k : Int) - 15 : Int).toNat) 0)) ∧ g 7 = (u32 (wl.getD (((k : Int) - 2 : Int).toNat) 0)) ∧ g 8 = (i64 (k : Int)) ∧ g 9 = (bl (decide ((k : Int) < 64))) ∧ g 12 = (bl (decide ((k : Int) < 16))) ∧ True) ⟨s0, s2, rfl, rfl, rfl, s8, rfl, rfl, trivial⟩ ?_
       rintro fr16 ⟨s0, s2, s3, s6, s7, s8, s9, s12, _⟩
       refine cw_seq <| cw_draw [(0, false), (1, false), (2, false), (3, false), (4, false), (5, false), (6, false), (7, false), (8, false), (9, false)] 10 (by kernel_rfl) <| dM rfl rfl s3 <| dM rfl rfl s3 <| dw_q rfl rfl (fun _ _hx => ev_i64_sub (b := 16) rfl rfl oM oM) <| dw_q rfl rfl (fun _ _hx => ev_ia_arr (r := ((k : Int) - 16 : Int).toNat) oM uT98 ti55 s2 rfl oM sD) ?_
       refine dw_q (v := (u32 (wl.getD (((k : Int) - 16 : Int).toNat) 0))) rfl rfl (fun _ _hx => ev_load1 uT55 rfl rfl (hm15.ext _hx).h0 (get_clD _ _ 0 sD)) <| dM rfl rfl s3 <| dw_q rfl rfl (fun _ _hx => ev_i64_sub (b := 7) rfl rfl oM oM) <| dw_q rfl rfl (fun _ _hx => ev_ia_arr (r := ((k : Int) - 7 : Int).toNat) oM uT98 ti55 s2 rfl oM sD) <| dw_q (v := (u32 (wl.getD (((k : Int) - 7 : Int).toNat) 0))) rfl rfl (fun _ _hx => ev_load1 uT55 rfl rfl (hm15.ext _hx).h0 (get_clD _ _ 0 sD)) <| dw_q rfl rfl (fun _ _hx => ev_u32_add rfl rfl) ?_
       refine dw_nil (fun w17 _ew17 => ?_)
       have hm17 := hm15.ext _ew17
       refine rw_q rfl (ev_ia_arr (r := k) oM uT98 ti55 s2 rfl oM sD) <| rw_n (or_store_cl (f := u32) (a := (wl.getD (((k : Int) - 16 : Int).toNat) 0) + (wl.getD (((k : Int) - 7 : Int).toNat) 0)) u32_one ti55 rfl rfl hm17.h0 sD (.inl (Nat.zero_le _))) ?_
       rintro _ w18 uq18
       have hm18 := hm17.upd0 uq18
       refine rN ?_
       refine CW.abs (fun g => g 0 = vb ∧ g 2 = (ptr b2 0) ∧ g 3 = (i64 (k : Int)) ∧ g 6 = (u32 (wl.getD (((k : Int) - 15 : Int).toNat) 0)) ∧ g 7 = (u32 (wl.getD (((k : Int) - 2 : Int).toNat) 0)) ∧ g 8 = (i64 (k : Int)) ∧ g 9 = (bl (decide ((k : Int) < 64))) ∧ g 12 = (bl (decide ((k : Int) < 16))) ∧ True) ⟨s0, s2, s3, s6, s7, s8, s9, s12, trivial⟩ ?_
       rintro fr19 ⟨s0, s2, s3, s6, s7, s8, s9, s12, _⟩
       refine cw_seq <| cw_draw [(0, false), (1, false), (2, false), (3, false), (4, false), (5, false), (6, false), (7, false), (8, false), (9, false), (10, false)] 11 (by kernel_rfl) <| dM rfl rfl s3 <| dw_q rfl rfl (fun _ _hx => ev_ia_arr (r := k) oM uT98 ti55 s2 rfl oM sD) <| dw_q (v := (u32 ((wl.set k ((wl.getD (((k : Int) - 16 : Int).toNat) 0) + (wl.getD (((k : Int) - 7 : Int).toNat) 0))).getD k 0))) rfl rfl (fun _ _hx => ev_load1 uT55 rfl rfl (hm18.ext _hx).h0 (get_clD _ _ 0 sD)) <| dM rfl rfl s6 ?_
       refine dw_x (v := (u32 (rotl32 (wl.getD (((k : Int) - 15 : Int).toNat) 0) ((-7) : Int)))) rfl rfl (fun w20 _ew20 => OpR.mono (opR_call Tryd.func81 bd81 nm81 (args2 rfl rfl) (c_rotl32 (wl.getD (((k : Int) - 15 : Int).toNat) 0) ((-7) : Int) _)) (by rintro _ w21 ⟨rfl, rfl⟩; exact ⟨rfl, Ext.refl _⟩)) <| dM rfl rfl s6 <| dw_x (v := (u32 (rotl32 (wl.getD (((k : Int) - 15 : Int).toNat) 0) ((-18) : Int)))) rfl rfl (fun w23 _ew23 => OpR.mono (opR_call Tryd.func81 bd81 nm81 (args2 rfl rfl) (c_rotl32 (wl.getD (((k : Int) - 15 : Int).toNat) 0) ((-18) : Int) _)) (by rintro _ w24 ⟨rfl, rfl⟩; exact ⟨rfl, Ext.refl _⟩)) <| dw_q rfl rfl (fun _ _hx => ev_u32_xor rfl rfl) <| dM rfl rfl s6 <| dw_q rfl rfl (fun _ _hx => ev_u32_shr (b := 3) rfl rfl oM) ?_
       refine dw_q rfl rfl (fun _ _hx => ev_u32_xor rfl rfl) ?_
       refine dw_nil (fun w26 _ew26 => ?_)
       have hm26 := hm18.ext _ew26
       refine rw_q rfl (ev_u32_add rfl rfl) <| rw_q rfl (ev_ia_arr (r := k) oM uT98 ti55 s2 rfl oM sD) <| rw_n (or_store_cl (f := u32) (a := ((wl.set k ((wl.getD (((k : Int) - 16 : Int).toNat) 0) + (wl.getD (((k : Int) - 7 : Int).toNat) 0))).getD k 0) + (((rotl32 (wl.getD (((k : Int) - 15 : Int).toNat) 0) ((-7) : Int)) ^^^ (rotl32 (wl.getD (((k : Int) - 15 : Int).toNat) 0) ((-18) : Int))) ^^^ ((wl.getD (((k : Int) - 15 : Int).toNat) 0) >>> 3))) u32_one ti55 rfl rfl hm26.h0 sD (.inl (Nat.zero_le _))) ?_
       rintro _ w27 uq27
       have hm27 := hm26.upd0 uq27
       refine rN ?_
       refine CW.abs (fun g => g 0 = vb ∧ g 2 = (ptr b2 0) ∧ g 3 = (i64 (k : Int)) ∧ g 6 = (u32 (wl.getD (((k : Int) - 15 : Int).toNat) 0)) ∧ g 7 = (u32 (wl.getD (((k : Int) - 2 : Int).toNat) 0)) ∧ g 8 = (i64 (k : Int)) ∧ g 9 = (bl (decide ((k : Int) < 64))) ∧ g 12 = (bl (decide ((k : Int) < 16))) ∧ True) ⟨s0, s2, s3, s6, s7, s8, s9, s12, trivial⟩ ?_
       rintro fr28 ⟨s0, s2, s3, s6, s7, s8, s9, s12, _⟩
       refine cw_draw [(0, false), (1, false), (2, false), (3, false), (4, false), (5, false), (6, false), (7, false), (8, false), (9, false), (10, false)] 11 (by kernel_rfl) <| dM rfl rfl s3 <| dw_q rfl rfl (fun _ _hx => ev_ia_arr (r := k) oM uT98 ti55 s2 rfl oM sD) <| dw_q rfl rfl (fun _ _hx => ev_load1 uT55 rfl rfl (hm27.ext _hx).h0 (get_clD _ _ 0 sD)) <| dM rfl rfl s7 <| dw_x (v := (u32 (rotl32 (wl.getD (((k : Int) - 2 : Int).toNat) 0) ((-17) : Int)))) rfl rfl (fun w29 _ew29 => OpR.mono (opR_call Tryd.func81 bd81 nm81 (args2 rfl rfl) (c_rotl32 (wl.getD (((k : Int) - 2 : Int).toNat) 0) ((-17) : Int) _)) (by rintro _ w30 ⟨rfl, rfl⟩; exact ⟨rfl, Ext.refl _⟩)) ?_
       refine dM rfl rfl s7 <| dw_x (v := (u32 (rotl32 (wl.getD (((k : Int) - 2 : Int).toNat) 0) ((-19) : Int)))) rfl rfl (fun w32 _ew32 => OpR.mono (opR_call Tryd.func81 bd81 nm81 (args2 rfl rfl) (c_rotl32 (wl.getD (((k : Int) - 2 : Int).toNat) 0) ((-19) : Int) _)) (by rintro _ w33 ⟨rfl, rfl⟩; exact ⟨rfl, Ext.refl _⟩)) <| dw_q rfl rfl (fun _ _hx => ev_u32_xor rfl rfl) <| dM rfl rfl s7 <| dw_q rfl rfl (fun _ _hx => ev_u32_shr (b := 10) rfl rfl oM) <| dw_q rfl rfl (fun _ _hx => ev_u32_xor rfl rfl) ?_
       refine dw_nil (fun w35 _ew35 => ?_)
       have hm35 := hm27.ext _ew35
       refine rw_q rfl (ev_u32_add rfl rfl) <| rw_q rfl (ev_ia_arr (r := k) oM uT98 ti55 s2 rfl oM sD) <| rw_n (or_store_cl (f := u32) (a := (((wl.set k ((wl.getD (((k : Int) - 16 : Int).toNat) 0) + (wl.getD (((k : Int) - 7 : Int).toNat) 0))).set k (((wl.set k ((wl.getD (((k : Int) - 16 : Int).toNat) 0) + (wl.getD (((k : Int) - 7 : Int).toNat) 0))).getD k 0) + (((rotl32 (wl.getD (((k : Int) - 15 : Int).toNat) 0) ((-7) : Int)) ^^^ (rotl32 (wl.getD (((k : Int) - 15 : Int).toNat) 0) ((-18) : Int))) ^^^ ((wl.getD (((k : Int) - 15 : Int).toNat) 0) >>> 3)))).getD k 0) + (((rotl32 (wl.getD (((k : Int) - 2 : Int).toNat) 0) ((-17) : Int)) ^^^ (rotl32 (wl.getD (((k : Int) - 2 : Int).toNat) 0) ((-19) : Int))) ^^^ ((wl.getD (((k : Int) - 2 : Int).toNat) 0) >>> 10))) u32_one ti55 rfl rfl hm35.h0 sD (.inl (Nat.zero_le _))) ?_
       rintro _ w36 uq36
       have hm36 := hm35.upd0 uq36
       refine rw_nil (kBlk_normal ?_)
       refine CW.abs (fun g => g 0 = vb ∧ g 2 = (ptr b2 0) ∧ g 3 = (i64 (k : Int)) ∧ g 6 = (u32 (wl.getD (((k : Int) - 15 : Int).toNat) 0)) ∧ g 7 = (u32 (wl.getD (((k : Int) - 2 : Int).toNat) 0)) ∧ g 8 = (i64 (k : Int)) ∧ g 9 = (bl (decide ((k : Int) < 64))) ∧ g 12 = (bl (decide ((k : Int) < 16))) ∧ True) ⟨s0, s2, s3, s6, s7, s8, s9, s12, trivial⟩ ?_
       rintro fr37 ⟨s0, s2, s3, s6, s7, s8, s9, s12, _⟩
       refine cw_region <| rw_q rfl (ev_i64_add (b := 1) s8 rfl oM oM) <| rw_q rfl (ev_move (v := (i64 ((k : Int) + 1))) rfl) <| rN ?_
       have hwn : ((wl.set k ((wl.getD (((k : Int) - 16 : Int).toNat) 0) + (wl.getD (((k : Int) - 7 : Int).toNat) 0))).set k (((wl.set k ((wl.getD (((k : Int) - 16 : Int).toNat) 0) + (wl.getD (((k : Int) - 7 : Int).toNat) 0))).getD k 0) + (((rotl32 (wl.getD (((k : Int) - 15 : Int).toNat) 0) ((-7) : Int)) ^^^ (rotl32 (wl.getD (((k : Int) - 15 : Int).toNat) 0) ((-18) : Int))) ^^^ ((wl.getD (((k : Int) - 15 : Int).toNat) 0) >>> 3)))).set k ((((wl.set k ((wl.getD (((k : Int) - 16 : Int).toNat) 0) + (wl.getD (((k : Int) - 7 : Int).toNat) 0))).set k (((wl.set k ((wl.getD (((k : Int) - 16 : Int).toNat) 0) + (wl.getD (((k : Int) - 7 : Int).toNat) 0))).getD k 0) + (((rotl32 (wl.getD (((k : Int) - 15 : Int).toNat) 0) ((-7) : Int)) ^^^ (rotl32 (wl.getD (((k : Int) - 15 : Int).toNat) 0) ((-18) : Int))) ^^^ ((wl.getD (((k : Int) - 15 : Int).toNat) 0) >>> 3)))).getD k 0) + (((rotl32 (wl.getD (((k : Int) - 2 : Int).toNat) 0) ((-17) : Int)) ^^^ (rotl32 (wl.getD (((k : Int) - 2 : Int).toNat) 0) ((-19) : Int))) ^^^ ((wl.getD (((k : Int) - 2 : Int).toNat) 0) >>> 10))) = schedGo l (k + 1) := by
         have e16 : ((k : Int) - 16).toNat = k - 16 := by omega
         have e7 : ((k : Int) - 7).toNat = k - 7 := by omega
         have e15 : ((k : Int) - 15).toNat = k - 15 := by omega
         have e2 : ((k : Int) - 2).toNat = k - 2 := by omega
         rw [e16, e7, e15, e2]
         exact sched_next l k oM oM wl hw _ _ _ rfl rfl rfl
       exact ⟨⟨k + 1, ((wl.set k ((wl.getD (((k : Int) - 16 : Int).toNat) 0) + (wl.getD (((k : Int) - 7 : Int).toNat) 0))).set k (((wl.set k ((wl.getD (((k : Int) - 16 : Int).toNat) 0) + (wl.getD (((k : Int) - 7 : Int).toNat) 0))).getD k 0) + (((rotl32 (wl.getD (((k : Int) - 15 : Int).toNat) 0) ((-7) : Int)) ^^^ (rotl32 (wl.getD (((k : Int) - 15 : Int).toNat) 0) ((-18) : Int))) ^^^ ((wl.getD (((k : Int) - 15 : Int).toNat) 0) >>> 3)))).set k ((((wl.set k ((wl.getD (((k : Int) - 16 : Int).toNat) 0) + (wl.getD (((k : Int) - 7 : Int).toNat) 0))).set k (((wl.set k ((wl.getD (((k : Int) - 16 : Int).toNat) 0) + (wl.getD (((k : Int) - 7 : Int).toNat) 0))).getD k 0) + (((rotl32 (wl.getD (((k : Int) - 15 : Int).toNat) 0) ((-7) : Int)) ^^^ (rotl32 (wl.getD (((k : Int) - 15 : Int).toNat) 0) ((-18) : Int))) ^^^ ((wl.getD (((k : Int) - 15 : Int).toNat) 0) >>> 3)))).getD k 0) + (((rotl32 (wl.getD (((k : Int) - 2 : Int).toNat) 0) ((-17) : Int)) ^^^ (rotl32 (wl.getD (((k : Int) - 2 : Int).toNat) 0) ((-19) : Int))) ^^^ ((wl.getD (((k : Int) - 2 : Int).toNat) 0) >>> 10))), oM, hwn, s0, s2, rfl, hm36⟩, meas rfl z8 oM oM⟩
   · -- false
     have hc4p := of_decide_eq_false hc4
     obtain rfl : k = 64 := by omega
     have hwl : wl.length = 64 := by rw [hw, schedGo_length]
     refine cw_exit ?_
     refine kThen_exit (kThen_exit (kBlk_hit ?_))
     refine sR <| rw_q (v := (agg u32 wl)) rfl (ev_loadA uT98 rfl ti98 s2 hm3.h0 sZ) <| rw_n (or_store_agg (f := u32) (l := wl) u32_one ti98 s2 rfl sD hm3.h0 sZ rfl) ?_
     rintro _ w38 uq38
     have hm38 := hm3.upd0 uq38
     refine rN (cw_ret ?_)
     refine fnPost_ret [(agg u32 wl)] ⟨⟨_, s2, loadVar_run uT98 rfl ti98 hm38.h0 sZ⟩, trivial⟩ ?_
     exact ⟨congrArg (agg u32) hw, hm38.toExt⟩

theorem c_take (bd : Nat) (x0 x1 x2 x3 x4 x5 x6 x7 : BitVec 32) (v : Value) (n : BitVec 64) (vb : Value) (l : List (BitVec 8)) (w0 : World) (R : Rest) (hm0 : Mem w0 R [(bd, .cells #[(u32 x0), (u32 x1), (u32 x2), (u32 x3), (u32 x4), (u32 x5), (u32 x6), (u32 x7), v, (u64 n)] 96 (0, 0))]) (hT : Tabs R.blk) (hr : Rd R.blk u8 vb l) (hl : l.length = 64) : CallsR Tryd.prog 63 #[(ptr bd 0), vb] w0 (fun r w1 => ∃ y0 y1 y2 y3 y4 y5 y6 y7, [y0, y1, y2, y3, y4, y5, y6, y7] = takeP [x0, x1, x2, x3, x4, x5, x6, x7] l ∧ Mem w1 R [(bd, .cells #[(u32 y0), (u32 y1), (u32 y2), (u32 y3), (u32 y4), (u32 y5), (u32 y6), (u32 y7), v, (u64 n)] 96 (0, 0))]) := by
 refine callsR_of_cw (args := [(ptr bd 0), vb]) Tryd.func63 rfl Tryd.ntmps63 Tryd.results63 rfl ?_
 obtain ⟨Es, fzs, hTs⟩ := hT.start
 obtain ⟨Er, fzr, hTr⟩ := hT.round
 refine cw_seq <| cw_draw [(0, false), (1, false), (2, false), (3, false), (4, false), (5, false), (6, false), (7, false), (8, false), (9, false), (10, false), (11, false), (12, false), (13, false), (14, false), (15, false), (16, false), (17, false), (18, false), (19, false), (20, false), (21, false), (22, false), (23, false), (24, false), (25, false), (26, false), (27, false), (28, false), (29, false), (30, false), (31, false), (32, false), (33, false), (34, false), (35, false), (36, false), (37, false), (38, false), (39, false), (40, false), (41, false), (42, false), (43, false), (44, false), (45, false), (46, false)] 47 (by kernel_rfl) <| dw_q rfl rfl (fun _ _hx => ev_move (v := (ptr bd 0)) rfl) <| dw_q rfl rfl (fun _ _hx => ev_nilCheck rfl) <| dw_q rfl rfl (fun _ _hx => ev_fa (r := 0) uT96 rfl (by first | rfl | omega) ti94 rfl rfl) <| dw_q rfl rfl (fun _ _hx => ev_ia_arr (r := 0) (i := 0) oM uT94 ti55 rfl rfl oM oM) ?_
 refine dw_q (v := (u32 x0)) rfl rfl (fun _ _hx => ev_load1 uT55 rfl rfl (hm0.ext _hx).h0 rfl) <| dw_q rfl rfl (fun _ _hx => ev_move (v := (ptr bd 0)) rfl) <| dw_q rfl rfl (fun _ _hx => ev_nilCheck rfl) <| dw_q rfl rfl (fun _ _hx => ev_fa (r := 0) uT96 rfl (by first | rfl | omega) ti94 rfl rfl) <| dw_q rfl rfl (fun _ _hx => ev_ia_arr (r := 1) (i := 1) oM uT94 ti55 rfl rfl oM oM) <| dw_q (v := (u32 x1)) rfl rfl (fun _ _hx => ev_load1 uT55 rfl rfl (hm0.ext _hx).h0 rfl) ?_
 refine dw_q rfl rfl (fun _ _hx => ev_move (v := (ptr bd 0)) rfl) <| dw_q rfl rfl (fun _ _hx => ev_nilCheck rfl) <| dw_q rfl rfl (fun _ _hx => ev_fa (r := 0) uT96 rfl (by first | rfl | omega) ti94 rfl rfl) <| dw_q rfl rfl (fun _ _hx => ev_ia_arr (r := 2) (i := 2) oM uT94 ti55 rfl rfl oM oM) <| dw_q (v := (u32 x2)) rfl rfl (fun _ _hx => ev_load1 uT55 rfl rfl (hm0.ext _hx).h0 rfl) <| dw_q rfl rfl (fun _ _hx => ev_move (v := (ptr bd 0)) rfl) ?_
 refine dw_q rfl rfl (fun _ _hx => ev_nilCheck rfl) <| dw_q rfl rfl (fun _ _hx => ev_fa (r := 0) uT96 rfl (by first | rfl | omega) ti94 rfl rfl) <| dw_q rfl rfl (fun _ _hx => ev_ia_arr (r := 3) (i := 3) oM uT94 ti55 rfl rfl oM oM) <| dw_q (v := (u32 x3)) rfl rfl (fun _ _hx => ev_load1 uT55 rfl rfl (hm0.ext _hx).h0 rfl) <| dw_q rfl rfl (fun _ _hx => ev_move (v := (ptr bd 0)) rfl) <| dw_q rfl rfl (fun _ _hx => ev_nilCheck rfl) ?_
 refine dw_q rfl rfl (fun _ _hx => ev_fa (r := 0) uT96 rfl (by first | rfl | omega) ti94 rfl rfl) <| dw_q rfl rfl (fun _ _hx => ev_ia_arr (r := 4) (i := 4) oM uT94 ti55 rfl rfl oM oM) <| dw_q (v := (u32 x4)) rfl rfl (fun _ _hx => ev_load1 uT55 rfl rfl (hm0.ext _hx).h0 rfl) <| dw_q rfl rfl (fun _ _hx => ev_move (v := (ptr bd 0)) rfl) <| dw_q rfl rfl (fun _ _hx => ev_nilCheck rfl) <| dw_q rfl rfl (fun _ _hx => ev_fa (r := 0) uT96 rfl (by first | rfl | omega) ti94 rfl rfl) ?_
 refine dw_q rfl rfl (fun _ _hx => ev_ia_arr (r := 5) (i := 5) oM uT94 ti55 rfl rfl oM oM) <| dw_q (v := (u32 x5)) rfl rfl (fun _ _hx => ev_load1 uT55 rfl rfl (hm0.ext _hx).h0 rfl) <| dw_q rfl rfl (fun _ _hx => ev_move (v := (ptr bd 0)) rfl) <| dw_q rfl rfl (fun _ _hx => ev_nilCheck rfl) <| dw_q rfl rfl (fun _ _hx => ev_fa (r := 0) uT96 rfl (by first | rfl | omega) ti94 rfl rfl) <| dw_q rfl rfl (fun _ _hx => ev_ia_arr (r := 6) (i := 6) oM uT94 ti55 rfl rfl oM oM) ?_
 refine dw_q (v := (u32 x6)) rfl rfl (fun _ _hx => ev_load1 uT55 rfl rfl (hm0.ext _hx).h0 rfl) <| dw_q rfl rfl (fun _ _hx => ev_move (v := (ptr bd 0)) rfl) <| dw_q rfl rfl (fun _ _hx => ev_nilCheck rfl) <| dw_q rfl rfl (fun _ _hx => ev_fa (r := 0) uT96 rfl (by first | rfl | omega) ti94 rfl rfl) <| dw_q rfl rfl (fun _ _hx => ev_ia_arr (r := 7) (i := 7) oM uT94 ti55 rfl rfl oM oM) <| dw_q (v := (u32 x7)) rfl rfl (fun _ _hx => ev_load1 uT55 rfl rfl (hm0.ext _hx).h0 rfl) ?_
 refine dw_q rfl rfl (fun _ _hx => ev_assign (v := (u32 x0)) rfl) <| dw_q rfl rfl (fun _ _hx => ev_assign (v := (u32 x1)) rfl) <| dw_q rfl rfl (fun _ _hx => ev_assign (v := (u32 x2)) rfl) <| dw_q rfl rfl (fun _ _hx => ev_assign (v := (u32 x3)) rfl) <| dw_q rfl rfl (fun _ _hx => ev_assign (v := (u32 x4)) rfl) <| dw_q rfl rfl (fun _ _hx => ev_assign (v := (u32 x5)) rfl) ?_
 refine dw_q rfl rfl (fun _ _hx => ev_assign (v := (u32 x6)) rfl) ?_
 refine dw_nil (fun w1 _ew1 => ?_)
 have hm1 := hm0.ext _ew1
 refine rw_q rfl (ev_assign (v := (u32 x7)) rfl) <| rN ?_
 refine CW.abs (fun g => g 0 = (ptr bd 0) ∧ g 1 = vb ∧ g 4 = (u32 x0) ∧ g 5 = (u32 x1) ∧ g 6 = (u32 x2) ∧ g 7 = (u32 x3) ∧ g 8 = (u32 x4) ∧ g 9 = (u32 x5) ∧ g 10 = (u32 x6) ∧ g 11 = (u32 x7) ∧ True) ⟨rfl, rfl, rfl, rfl, rfl, rfl, rfl, rfl, rfl, rfl, trivial⟩ ?_
 rintro fr2 ⟨s0, s1, s4, s5, s6, s7, s8, s9, s10, s11, _⟩
 refine cw_seq (sR ?_)
 refine rM rfl s1 <| rw_c rfl (opR_call Tryd.func80 bd80 nm80 (args1 rfl) (c_schedule vb l _ (Rd.ofRest hr hm1) sD)) ?_
 rintro _ w3 ⟨rfl, _ew3⟩
 have hm3 := hm1.ext _ew3
 refine rw_q rfl (ev_move (v := (i64 0)) rfl) ?_
 refine rN (cw_block ?_)
 refine cw_loop (fun g wv => ∃ (k : Nat) (sa sz sc se sf sg sh sk : BitVec 32), (k ≤ 64) ∧ ([sa, sz, sc, se, sf, sg, sh, sk] = rndsGo (schedP l) k [x0, x1, x2, x3, x4, x5, x6, x7]) ∧ g 0 = (ptr bd 0) ∧ g 1 = vb ∧ g 4 = (u32 sa) ∧ g 5 = (u32 sz) ∧ g 6 = (u32 sc) ∧ g 7 = (u32 se) ∧ g 8 = (u32 sf) ∧ g 9 = (u32 sg) ∧ g 10 = (u32 sh) ∧ g 11 = (u32 sk) ∧ g 59 = (agg u32 (schedP l)) ∧ g 60 = (i64 (k : Int)) ∧ Mem wv R [(bd, .cells #[(u32 x0), (u32 x1), (u32 x2), (u32 x3), (u32 x4), (u32 x5), (u32 x6), (u32 x7), v, (u64 n)] 96 (0, 0))]) (fun g wv => (64 - RowKit.intOf (g 60)).toNat) ?_ ?_
 · exact ⟨0, x0, x1, x2, x3, x4, x5, x6, x7, oM, rfl, s0, s1, s4, s5, s6, s7, s8, s9, s10, s11, rfl, rfl, hm3⟩
 · rintro fr5 w6 ⟨k, sa, sz, sc, se, sf, sg, sh, sk, hk1, hs, s0, s1, s4, s5, s6, s7, s8, s9, s10, s11, s59, s60, hm6⟩
   have z60 := s60
   have z4 := s4
   have z5 := s5
   have z6 := s6
   have z7 := s7
   have z8 := s8
   have z9 := s9
   have z10 := s10
   have z11 := s11
   refine sR <| rw_q rfl (ev_i64_lss (b := 64) s60 rfl) ?_
   refine rN (cw_seq ?_)
   refine cw_cond rfl (fun hc7 => ?_) (fun hc7 => ?_)
   · -- true
     have hc7p := of_decide_eq_true hc7
     refine cw_skip (kThen_normal (cw_seq (cw_block (sR ?_))))
     refine rM rfl s60 <| rw_q (v := (u32 ((schedP l).getD k 0))) rfl (ev_index_agg uT98 uT55 rfl ti55 s59 s60 oM sD (get_clD _ _ 0 sD)) <| rw_q rfl (ev_assign (v := (i64 (k : Int))) rfl) <| rw_q rfl (ev_assign (v := (u32 ((schedP l).getD k 0))) rfl) ?_
     refine rN (sR ?_)
     refine rM rfl s11 <| rw_q rfl (ev_move (v := (u32 ((schedP l).getD k 0))) rfl) <| rw_q rfl (ev_u32_add rfl rfl) <| rw_q rfl (ev_move (v := (i64 (k : Int))) rfl) <| rw_q rfl (ev_ia_arr (r := k) oM uT98 ti55 rfl rfl oM sD) <| rw_q (v := (u32 (roundL.getD k 0))) rfl (ev_load1 uT55 rfl rfl (hm6.rest _ _ hTr) (get_clD _ _ 0 sD)) ?_
     refine rw_q rfl (ev_u32_add rfl rfl) <| rM rfl s8 <| rM rfl s9 <| rw_q rfl (ev_u32_and rfl rfl) <| rM rfl s8 <| rw_q rfl (ev_u32_not rfl) ?_
     refine rM rfl s10 <| rw_q rfl (ev_u32_and rfl rfl) <| rw_q rfl (ev_u32_xor rfl rfl) <| rw_q rfl (ev_u32_add rfl rfl) <| rA rfl rfl <| rN ?_
     refine CW.abs (fun g => g 0 = (ptr bd 0) ∧ g 1 = vb ∧ g 4 = (u32 sa) ∧ g 5 = (u32 sz) ∧ g 6 = (u32 sc) ∧ g 7 = (u32 se) ∧ g 8 = (u32 sf) ∧ g 9 = (u32 sg) ∧ g 10 = (u32 sh) ∧ g 11 = (u32 sk) ∧ g 12 = (i64 (k : Int)) ∧ g 13 = (u32 ((schedP l).getD k 0)) ∧ g 14 = (u32 (((sk + ((schedP l).getD k 0)) + (roundL.getD k 0)) + ((sf &&& sg) ^^^ ((~~~sf) &&& sh)))) ∧ g 59 = (agg u32 (schedP l)) ∧ g 60 = (i64 (k : Int)) ∧ g 61 = (bl (decide ((k : Int) < 64))) ∧ True) ⟨s0, s1, s4, s5, s6, s7, s8, s9, s10, s11, rfl, rfl, rfl, s59, s60, rfl, trivial⟩ ?_
     rintro fr8 ⟨s0, s1, s4, s5, s6, s7, s8, s9, s10, s11, s12, s13, s14, s59, s60, s61, _⟩
     refine sR <| rM rfl s14 <| rM rfl s8 <| rw_c rfl (opR_call Tryd.func81 bd81 nm81 (args2 rfl rfl) (c_rotl32 sf ((-6) : Int) _)) ?_
     rintro _ w9 ⟨rfl, rfl⟩
     refine rM rfl s8 <| rw_c rfl (opR_call Tryd.func81 bd81 nm81 (args2 rfl rfl) (c_rotl32 sf ((-11) : Int) _)) ?_
     rintro _ w11 ⟨rfl, rfl⟩
     refine rw_q rfl (ev_u32_xor rfl rfl) <| rM rfl s8 <| rw_c rfl (opR_call Tryd.func81 bd81 nm81 (args2 rfl rfl) (c_rotl32 sf ((-25) : Int) _)) ?_
     rintro _ w13 ⟨rfl, rfl⟩
     refine rw_q rfl (ev_u32_xor rfl rfl) <| rw_q rfl (ev_u32_add rfl rfl) <| rA rfl rfl ?_
     refine rN (sR ?_)
     refine rM rfl s4 <| rM rfl s5 <| rw_q rfl (ev_u32_and rfl rfl) <| rM rfl s4 <| rM rfl s6 <| rw_q rfl (ev_u32_and rfl rfl) ?_
     refine rw_q rfl (ev_u32_xor rfl rfl) <| rM rfl s5 <| rM rfl s6 <| rw_q rfl (ev_u32_and rfl rfl) <| rw_q rfl (ev_u32_xor rfl rfl) <| rw_q rfl (ev_assign (v := (u32 (((sa &&& sz) ^^^ (sa &&& sc)) ^^^ (sz &&& sc)))) rfl) ?_
     refine rN ?_
     refine CW.abs (fun g => g 0 = (ptr bd 0) ∧ g 1 = vb ∧ g 4 = (u32 sa) ∧ g 5 = (u32 sz) ∧ g 6 = (u32 sc) ∧ g 7 = (u32 se) ∧ g 8 = (u32 sf) ∧ g 9 = (u32 sg) ∧ g 10 = (u32 sh) ∧ g 11 = (u32 sk) ∧ g 12 = (i64 (k : Int)) ∧ g 13 = (u32 ((schedP l).getD k 0)) ∧ g 14 = (u32 ((((sk + ((schedP l).getD k 0)) + (roundL.getD k 0)) + ((sf &&& sg) ^^^ ((~~~sf) &&& sh))) + (((rotl32 sf ((-6) : Int)) ^^^ (rotl32 sf ((-11) : Int))) ^^^ (rotl32 sf ((-25) : Int))))) ∧ g 15 = (u32 (((sa &&& sz) ^^^ (sa &&& sc)) ^^^ (sz &&& sc))) ∧ g 59 = (agg u32 (schedP l)) ∧ g 60 = (i64 (k : Int)) ∧ g 61 = (bl (decide ((k : Int) < 64))) ∧ True) ⟨s0, s1, s4, s5, s6, s7, s8, s9, s10, s11, s12, s13, rfl, rfl, s59, s60, s61, trivial⟩ ?_
     rintro fr15 ⟨s0, s1, s4, s5, s6, s7, s8, s9, s10, s11, s12, s13, s14, s15, s59, s60, s61, _⟩
     refine sR <| rM rfl s15 <| rM rfl s4 <| rw_c rfl (opR_call Tryd.func81 bd81 nm81 (args2 rfl rfl) (c_rotl32 sa ((-2) : Int) _)) ?_
     rintro _ w16 ⟨rfl, rfl⟩
     refine rM rfl s4 <| rw_c rfl (opR_call Tryd.func81 bd81 nm81 (args2 rfl rfl) (c_rotl32 sa ((-13) : Int) _)) ?_
     rintro _ w18 ⟨rfl, rfl⟩
     refine rw_q rfl (ev_u32_xor rfl rfl) <| rM rfl s4 <| rw_c rfl (opR_call Tryd.func81 bd81 nm81 (args2 rfl rfl) (c_rotl32 sa ((-22) : Int) _)) ?_
     rintro _ w20 ⟨rfl, rfl⟩
     refine rw_q rfl (ev_u32_xor rfl rfl) <| rw_q rfl (ev_u32_add rfl rfl) <| rA rfl rfl ?_
     refine rN (cw_region ?_)
     refine rM rfl s10 <| rM rfl s9 <| rM rfl s8 <| rM rfl s7 <| rM rfl s14 <| rw_q rfl (ev_u32_add rfl rfl) ?_
     refine rM rfl s6 <| rM rfl s5 <| rM rfl s4 <| rM rfl s14 <| rM rfl rfl <| rw_q rfl (ev_u32_add rfl rfl) ?_
     refine rw_q rfl (ev_assign (v := (u32 sh)) rfl) <| rw_q rfl (ev_assign (v := (u32 sg)) rfl) <| rw_q rfl (ev_assign (v := (u32 sf)) rfl) <| rA rfl rfl <| rw_q rfl (ev_assign (v := (u32 sc)) rfl) <| rw_q rfl (ev_assign (v := (u32 sz)) rfl) ?_
     refine rw_q rfl (ev_assign (v := (u32 sa)) rfl) <| rA rfl rfl ?_
     refine rw_nil (kBlk_normal ?_)
     refine CW.abs (fun g => g 0 = (ptr bd 0) ∧ g 1 = vb ∧ g 4 = (u32 (((((sk + ((schedP l).getD k 0)) + (roundL.getD k 0)) + ((sf &&& sg) ^^^ ((~~~sf) &&& sh))) + (((rotl32 sf ((-6) : Int)) ^^^ (rotl32 sf ((-11) : Int))) ^^^ (rotl32 sf ((-25) : Int)))) + ((((sa &&& sz) ^^^ (sa &&& sc)) ^^^ (sz &&& sc)) + (((rotl32 sa ((-2) : Int)) ^^^ (rotl32 sa ((-13) : Int))) ^^^ (rotl32 sa ((-22) : Int)))))) ∧ g 5 = (u32 sa) ∧ g 6 = (u32 sz) ∧ g 7 = (u32 sc) ∧ g 8 = (u32 (se + ((((sk + ((schedP l).getD k 0)) + (roundL.getD k 0)) + ((sf &&& sg) ^^^ ((~~~sf) &&& sh))) + (((rotl32 sf ((-6) : Int)) ^^^ (rotl32 sf ((-11) : Int))) ^^^ (rotl32 sf ((-25) : Int)))))) ∧ g 9 = (u32 sf) ∧ g 10 = (u32 sg) ∧ g 11 = (u32 sh) ∧ g 12 = (i64 (k : Int)) ∧ g 13 = (u32 ((schedP l).getD k 0)) ∧ g 14 = (u32 ((((sk + ((schedP l).getD k 0)) + (roundL.getD k 0)) + ((sf &&& sg) ^^^ ((~~~sf) &&& sh))) + (((rotl32 sf ((-6) : Int)) ^^^ (rotl32 sf ((-11) : Int))) ^^^ (rotl32 sf ((-25) : Int))))) ∧ g 15 = (u32 ((((sa &&& sz) ^^^ (sa &&& sc)) ^^^ (sz &&& sc)) + (((rotl32 sa ((-2) : Int)) ^^^ (rotl32 sa ((-13) : Int))) ^^^ (rotl32 sa ((-22) : Int))))) ∧ g 59 = (agg u32 (schedP l)) ∧ g 60 = (i64 (k : Int)) ∧ g 61 = (bl (decide ((k : Int) < 64))) ∧ True) ⟨s0, s1, rfl, rfl, rfl, rfl, rfl, rfl, rfl, rfl, s12, s13, s14, rfl, s59, s60, s61, trivial⟩ ?_
     rintro fr22 ⟨s0, s1, s4, s5, s6, s7, s8, s9, s10, s11, s12, s13, s14, s15, s59, s60, s61, _⟩
     refine cw_region <| rw_q rfl (ev_i64_add (b := 1) s60 rfl oM oM) <| rw_q rfl (ev_move (v := (i64 ((k : Int) + 1))) rfl) <| rN ?_
     have hsn : [((((sk + ((schedP l).getD k 0)) + (roundL.getD k 0)) + ((sf &&& sg) ^^^ ((~~~sf) &&& sh))) + (((rotl32 sf ((-6) : Int)) ^^^ (rotl32 sf ((-11) : Int))) ^^^ (rotl32 sf ((-25) : Int)))) + ((((sa &&& sz) ^^^ (sa &&& sc)) ^^^ (sz &&& sc)) + (((rotl32 sa ((-2) : Int)) ^^^ (rotl32 sa ((-13) : Int))) ^^^ (rotl32 sa ((-22) : Int)))), sa, sz, sc, se + ((((sk + ((schedP l).getD k 0)) + (roundL.getD k 0)) + ((sf &&& sg) ^^^ ((~~~sf) &&& sh))) + (((rotl32 sf ((-6) : Int)) ^^^ (rotl32 sf ((-11) : Int))) ^^^ (rotl32 sf ((-25) : Int)))), sf, sg, sh] = rndsGo (schedP l) (k + 1) [x0, x1, x2, x3, x4, x5, x6, x7] := by show _ = rnd _ _ (rndsGo (schedP l) k [x0, x1, x2, x3, x4, x5, x6, x7]); rw [← hs]; rfl
     exact ⟨⟨k + 1, (((((sk + ((schedP l).getD k 0)) + (roundL.getD k 0)) + ((sf &&& sg) ^^^ ((~~~sf) &&& sh))) + (((rotl32 sf ((-6) : Int)) ^^^ (rotl32 sf ((-11) : Int))) ^^^ (rotl32 sf ((-25) : Int)))) + ((((sa &&& sz) ^^^ (sa &&& sc)) ^^^ (sz &&& sc)) + (((rotl32 sa ((-2) : Int)) ^^^ (rotl32 sa ((-13) : Int))) ^^^ (rotl32 sa ((-22) : Int))))), sa, sz, sc, (se + ((((sk + ((schedP l).getD k 0)) + (roundL.getD k 0)) + ((sf &&& sg) ^^^ ((~~~sf) &&& sh))) + (((rotl32 sf ((-6) : Int)) ^^^ (rotl32 sf ((-11) : Int))) ^^^ (rotl32 sf ((-25) : Int))))), sf, sg, sh, oM, hsn, s0, s1, s4, s5, s6, s7, s8, s9, s10, s11, s59, rfl, hm6⟩, meas rfl z60 oM oM⟩
   · -- false
     have hc7p := of_decide_eq_false hc7
     obtain rfl : k = 64 := by omega
     refine cw_exit ?_
     refine kThen_exit (kThen_exit (kBlk_hit ?_))
     refine sR <| rM rfl s4 <| rM rfl s5 <| rM rfl s6 <| rM rfl s7 <| rM rfl s8 ?_
     refine rM rfl s9 <| rM rfl s10 <| rM rfl s11 <| rw_q rfl (ev_build_cl u32 [sa, sz, sc, se, sf, sg, sh, sk] u32_one ti94 uT94 ti55 rfl rfl) <| rw_q rfl (ev_move (v := (i64 0)) rfl) ?_
     refine rN (cw_block' ?_)
     refine cw_rounds 9 ?_
     refine cr_succ (sR ?_)
     refine rw_q rfl (ev_i64_lss (a := 0) (b := 8) rfl rfl) ?_
     refine rN (cw_seq ?_)
     refine cw_cond_t rfl (by decide) ?_
     refine cw_skip (kThen_normal (cw_seq (cw_block (sR ?_))))
     refine rw_q rfl (ev_move (v := (i64 0)) rfl) <| rw_q (v := (u32 sa)) rfl (ev_index_agg (i := 0) uT94 uT55 rfl ti55 rfl rfl oM sD (get_clD _ _ 0 (by simp))) <| rw_q rfl (ev_assign (v := (i64 0)) rfl) <| rw_q rfl (ev_assign (v := (u32 sa)) rfl) <| rN ?_
     refine CW.abs (fun g => g 0 = (ptr bd 0) ∧ g 1 = vb ∧ g 4 = (u32 sa) ∧ g 5 = (u32 sz) ∧ g 6 = (u32 sc) ∧ g 7 = (u32 se) ∧ g 8 = (u32 sf) ∧ g 9 = (u32 sg) ∧ g 10 = (u32 sh) ∧ g 11 = (u32 sk) ∧ g 16 = (i64 0) ∧ g 17 = (u32 sa) ∧ g 59 = (agg u32 (schedP l)) ∧ g 60 = (i64 (64 : Int)) ∧ g 61 = (bl (decide ((64 : Int) < 64))) ∧ g 132 = (agg u32 ([sa, sz, sc, se, sf, sg, sh, sk])) ∧ g 133 = (i64 0) ∧ g 134 = (bl true) ∧ True) ⟨s0, s1, s4, s5, s6, s7, s8, s9, s10, s11, rfl, rfl, s59, s60, rfl, rfl, rfl, rfl, trivial⟩ ?_
     rintro fr23 ⟨s0, s1, s4, s5, s6, s7, s8, s9, s10, s11, s16, s17, s59, s60, s61, s132, s133, s134, _⟩
     refine cw_draw [(0, false), (1, false), (2, false), (3, false), (4, false), (5, false), (6, false), (7, false), (8, false), (9, false)] 10 (by kernel_rfl) <| dM rfl rfl s0 <| dM rfl rfl s16 <| dw_q rfl rfl (fun _ _hx => ev_nilCheck rfl) <| dw_q rfl rfl (fun _ _hx => ev_fa (r := 0) uT96 rfl (by first | rfl | omega) ti94 rfl rfl) <| dw_q rfl rfl (fun _ _hx => ev_ia_arr (r := 0) (i := 0) oM uT94 ti55 rfl rfl oM oM) ?_
     refine dw_q (v := (u32 x0)) rfl rfl (fun _ _hx => ev_load1 uT55 rfl rfl (hm6.ext _hx).h0 rfl) <| dM rfl rfl s17 <| dw_q rfl rfl (fun _ _hx => ev_u32_add rfl rfl) <| dw_q rfl rfl (fun _ _hx => ev_nilCheck rfl) <| dw_q rfl rfl (fun _ _hx => ev_fa (r := 0) uT96 rfl (by first | rfl | omega) ti94 rfl rfl) ?_
     refine dw_nil (fun w24 _ew24 => ?_)
     have hm24 := hm6.ext _ew24
     refine rw_q rfl (ev_ia_arr (r := 0) (i := 0) oM uT94 ti55 rfl rfl oM oM) <| rw_n (or_store1 ti55 rfl rfl (u32_one _) hm24.h0 (by simp) (.inl (Nat.zero_le _))) ?_
     rintro _ w25 uq25
     have hm25 : Mem w25 R [(bd, .cells #[(u32 (x0 + sa)), (u32 x1), (u32 x2), (u32 x3), (u32 x4), (u32 x5), (u32 x6), (u32 x7), v, (u64 n)] 96 (0, 0))] := hm24.upd0 uq25
     refine rw_nil (kBlk_normal (cw_region ?_))
     refine rw_q (v := (i64 1)) rfl (ev_i64_add (a := 0) (b := 1) s133 rfl oM oM) <| rw_q rfl (ev_move (v := (i64 1)) rfl) <| rN ?_
     refine CR.abs (fun g => g 0 = (ptr bd 0) ∧ g 1 = vb ∧ g 4 = (u32 sa) ∧ g 5 = (u32 sz) ∧ g 6 = (u32 sc) ∧ g 7 = (u32 se) ∧ g 8 = (u32 sf) ∧ g 9 = (u32 sg) ∧ g 10 = (u32 sh) ∧ g 11 = (u32 sk) ∧ g 16 = (i64 0) ∧ g 17 = (u32 sa) ∧ g 59 = (agg u32 (schedP l)) ∧ g 60 = (i64 (64 : Int)) ∧ g 61 = (bl (decide ((64 : Int) < 64))) ∧ g 132 = (agg u32 ([sa, sz, sc, se, sf, sg, sh, sk])) ∧ g 133 = (i64 1) ∧ g 134 = (bl true) ∧ True) ⟨s0, s1, s4, s5, s6, s7, s8, s9, s10, s11, s16, s17, s59, s60, s61, s132, rfl, s134, trivial⟩ ?_
     rintro fr26 ⟨s0, s1, s4, s5, s6, s7, s8, s9, s10, s11, s16, s17, s59, s60, s61, s132, s133, s134, _⟩
     refine cr_succ (sR ?_)
     refine rw_q rfl (ev_i64_lss (a := 1) (b := 8) s133 rfl) ?_
     refine rN (cw_seq ?_)
     refine cw_cond_t rfl (by decide) ?_
     refine cw_skip (kThen_normal (cw_seq (cw_block (sR ?_))))
     refine rM rfl s133 <| rw_q (v := (u32 sz)) rfl (ev_index_agg (i := 1) uT94 uT55 rfl ti55 s132 s133 oM sD (get_clD _ _ 0 (by simp))) <| rw_q rfl (ev_assign (v := (i64 1)) rfl) <| rw_q rfl (ev_assign (v := (u32 sz)) rfl) <| rN <| cw_draw [(0, false), (1, false), (2, false), (3, false), (4, false), (5, false), (6, false), (7, false), (8, false), (9, false)] 10 (by kernel_rfl) ?_
     refine dM rfl rfl s0 <| dw_q rfl rfl (fun _ _hx => ev_move (v := (i64 1)) rfl) <| dw_q rfl rfl (fun _ _hx => ev_nilCheck rfl) <| dw_q rfl rfl (fun _ _hx => ev_fa (r := 0) uT96 rfl (by first | rfl | omega) ti94 rfl rfl) <| dw_q rfl rfl (fun _ _hx => ev_ia_arr (r := 1) (i := 1) oM uT94 ti55 rfl rfl oM oM) <| dw_q (v := (u32 x1)) rfl rfl (fun _ _hx => ev_load1 uT55 rfl rfl (hm25.ext _hx).h0 rfl) ?_
     refine dw_q rfl rfl (fun _ _hx => ev_move (v := (u32 sz)) rfl) <| dw_q rfl rfl (fun _ _hx => ev_u32_add rfl rfl) <| dw_q rfl rfl (fun _ _hx => ev_nilCheck rfl) <| dw_q rfl rfl (fun _ _hx => ev_fa (r := 0) uT96 rfl (by first | rfl | omega) ti94 rfl rfl) ?_
     refine dw_nil (fun w27 _ew27 => ?_)
     have hm27 := hm25.ext _ew27
     refine rw_q rfl (ev_ia_arr (r := 1) (i := 1) oM uT94 ti55 rfl rfl oM oM) <| rw_n (or_store1 ti55 rfl rfl (u32_one _) hm27.h0 (by simp) (.inl (Nat.zero_le _))) ?_
     rintro _ w28 uq28
     have hm28 : Mem w28 R [(bd, .cells #[(u32 (x0 + sa)), (u32 (x1 + sz)), (u32 x2), (u32 x3), (u32 x4), (u32 x5), (u32 x6), (u32 x7), v, (u64 n)] 96 (0, 0))] := hm27.upd0 uq28
     refine rw_nil (kBlk_normal ?_)
     refine CW.abs (fun g => g 0 = (ptr bd 0) ∧ g 1 = vb ∧ g 4 = (u32 sa) ∧ g 5 = (u32 sz) ∧ g 6 = (u32 sc) ∧ g 7 = (u32 se) ∧ g 8 = (u32 sf) ∧ g 9 = (u32 sg) ∧ g 10 = (u32 sh) ∧ g 11 = (u32 sk) ∧ g 16 = (i64 1) ∧ g 17 = (u32 sz) ∧ g 59 = (agg u32 (schedP l)) ∧ g 60 = (i64 (64 : Int)) ∧ g 61 = (bl (decide ((64 : Int) < 64))) ∧ g 132 = (agg u32 ([sa, sz, sc, se, sf, sg, sh, sk])) ∧ g 133 = (i64 1) ∧ g 134 = (bl true) ∧ True) ⟨s0, s1, s4, s5, s6, s7, s8, s9, s10, s11, rfl, rfl, s59, s60, s61, s132, s133, rfl, trivial⟩ ?_
     rintro fr29 ⟨s0, s1, s4, s5, s6, s7, s8, s9, s10, s11, s16, s17, s59, s60, s61, s132, s133, s134, _⟩
     refine cw_region <| rw_q (v := (i64 2)) rfl (ev_i64_add (a := 1) (b := 1) s133 rfl oM oM) <| rw_q rfl (ev_move (v := (i64 2)) rfl) ?_
     refine rN (cr_succ (sR ?_))
     refine rw_q rfl (ev_i64_lss (a := 2) (b := 8) rfl rfl) ?_
     refine rN (cw_seq ?_)
     refine cw_cond_t rfl (by decide) ?_
     refine cw_skip (kThen_normal (cw_seq (cw_block (sR ?_))))
     refine rw_q rfl (ev_move (v := (i64 2)) rfl) <| rw_q (v := (u32 sc)) rfl (ev_index_agg (i := 2) uT94 uT55 rfl ti55 s132 rfl oM sD (get_clD _ _ 0 (by simp))) <| rw_q rfl (ev_assign (v := (i64 2)) rfl) <| rw_q rfl (ev_assign (v := (u32 sc)) rfl) <| rN <| cw_draw [(0, false), (1, false), (2, false), (3, false), (4, false), (5, false), (6, false), (7, false), (8, false), (9, false)] 10 (by kernel_rfl) ?_
     refine dM rfl rfl s0 <| dw_q rfl rfl (fun _ _hx => ev_move (v := (i64 2)) rfl) <| dw_q rfl rfl (fun _ _hx => ev_nilCheck rfl) <| dw_q rfl rfl (fun _ _hx => ev_fa (r := 0) uT96 rfl (by first | rfl | omega) ti94 rfl rfl) <| dw_q rfl rfl (fun _ _hx => ev_ia_arr (r := 2) (i := 2) oM uT94 ti55 rfl rfl oM oM) <| dw_q (v := (u32 x2)) rfl rfl (fun _ _hx => ev_load1 uT55 rfl rfl (hm28.ext _hx).h0 rfl) ?_
     refine dw_q rfl rfl (fun _ _hx => ev_move (v := (u32 sc)) rfl) <| dw_q rfl rfl (fun _ _hx => ev_u32_add rfl rfl) <| dw_q rfl rfl (fun _ _hx => ev_nilCheck rfl) <| dw_q rfl rfl (fun _ _hx => ev_fa (r := 0) uT96 rfl (by first | rfl | omega) ti94 rfl rfl) ?_
     refine dw_nil (fun w30 _ew30 => ?_)
     have hm30 := hm28.ext _ew30
     refine rw_q rfl (ev_ia_arr (r := 2) (i := 2) oM uT94 ti55 rfl rfl oM oM) <| rw_n (or_store1 ti55 rfl rfl (u32_one _) hm30.h0 (by simp) (.inl (Nat.zero_le _))) ?_
     rintro _ w31 uq31
     have hm31 : Mem w31 R [(bd, .cells #[(u32 (x0 + sa)), (u32 (x1 + sz)), (u32 (x2 + sc)), (u32 x3), (u32 x4), (u32 x5), (u32 x6), (u32 x7), v, (u64 n)] 96 (0, 0))] := hm30.upd0 uq31
     refine rw_nil (kBlk_normal ?_)
     refine CW.abs (fun g => g 0 = (ptr bd 0) ∧ g 1 = vb ∧ g 4 = (u32 sa) ∧ g 5 = (u32 sz) ∧ g 6 = (u32 sc) ∧ g 7 = (u32 se) ∧ g 8 = (u32 sf) ∧ g 9 = (u32 sg) ∧ g 10 = (u32 sh) ∧ g 11 = (u32 sk) ∧ g 16 = (i64 2) ∧ g 17 = (u32 sc) ∧ g 59 = (agg u32 (schedP l)) ∧ g 60 = (i64 (64 : Int)) ∧ g 61 = (bl (decide ((64 : Int) < 64))) ∧ g 132 = (agg u32 ([sa, sz, sc, se, sf, sg, sh, sk])) ∧ g 133 = (i64 2) ∧ g 134 = (bl true) ∧ True) ⟨s0, s1, s4, s5, s6, s7, s8, s9, s10, s11, rfl, rfl, s59, s60, s61, s132, rfl, rfl, trivial⟩ ?_
     rintro fr32 ⟨s0, s1, s4, s5, s6, s7, s8, s9, s10, s11, s16, s17, s59, s60, s61, s132, s133, s134, _⟩
     refine cw_region <| rw_q (v := (i64 3)) rfl (ev_i64_add (a := 2) (b := 1) s133 rfl oM oM) <| rw_q rfl (ev_move (v := (i64 3)) rfl) ?_
     refine rN (cr_succ (sR ?_))
     refine rw_q rfl (ev_i64_lss (a := 3) (b := 8) rfl rfl) ?_
     refine rN (cw_seq ?_)
     refine cw_cond_t rfl (by decide) ?_
     refine cw_skip (kThen_normal (cw_seq (cw_block (sR ?_))))
     refine rw_q rfl (ev_move (v := (i64 3)) rfl) <| rw_q (v := (u32 se)) rfl (ev_index_agg (i := 3) uT94 uT55 rfl ti55 s132 rfl oM sD (get_clD _ _ 0 (by simp))) <| rw_q rfl (ev_assign (v := (i64 3)) rfl) <| rw_q rfl (ev_assign (v := (u32 se)) rfl) <| rN <| cw_draw [(0, false), (1, false), (2, false), (3, false), (4, false), (5, false), (6, false), (7, false), (8, false), (9, false)] 10 (by kernel_rfl) ?_
     refine dM rfl rfl s0 <| dw_q rfl rfl (fun _ _hx => ev_move (v := (i64 3)) rfl) <| dw_q rfl rfl (fun _ _hx => ev_nilCheck rfl) <| dw_q rfl rfl (fun _ _hx => ev_fa (r := 0) uT96 rfl (by first | rfl | omega) ti94 rfl rfl) <| dw_q rfl rfl (fun _ _hx => ev_ia_arr (r := 3) (i := 3) oM uT94 ti55 rfl rfl oM oM) <| dw_q (v := (u32 x3)) rfl rfl (fun _ _hx => ev_load1 uT55 rfl rfl (hm31.ext _hx).h0 rfl) ?_
     refine dw_q rfl rfl (fun _ _hx => ev_move (v := (u32 se)) rfl) <| dw_q rfl rfl (fun _ _hx => ev_u32_add rfl rfl) <| dw_q rfl rfl (fun _ _hx => ev_nilCheck rfl) <| dw_q rfl rfl (fun _ _hx => ev_fa (r := 0) uT96 rfl (by first | rfl | omega) ti94 rfl rfl) ?_
     refine dw_nil (fun w33 _ew33 => ?_)
     have hm33 := hm31.ext _ew33
     refine rw_q rfl (ev_ia_arr (r := 3) (i := 3) oM uT94 ti55 rfl rfl oM oM) <| rw_n (or_store1 ti55 rfl rfl (u32_one _) hm33.h0 (by simp) (.inl (Nat.zero_le _))) ?_
     rintro _ w34 uq34
     have hm34 : Mem w34 R [(bd, .cells #[(u32 (x0 + sa)), (u32 (x1 + sz)), (u32 (x2 + sc)), (u32 (x3 + se)), (u32 x4), (u32 x5), (u32 x6), (u32 x7), v, (u64 n)] 96 (0, 0))] := hm33.upd0 uq34
     refine rw_nil (kBlk_normal ?_)
     refine CW.abs (fun g => g 0 = (ptr bd 0) ∧ g 1 = vb ∧ g 4 = (u32 sa) ∧ g 5 = (u32 sz) ∧ g 6 = (u32 sc) ∧ g 7 = (u32 se) ∧ g 8 = (u32 sf) ∧ g 9 = (u32 sg) ∧ g 10 = (u32 sh) ∧ g 11 = (u32 sk) ∧ g 16 = (i64 3) ∧ g 17 = (u32 se) ∧ g 59 = (agg u32 (schedP l)) ∧ g 60 = (i64 (64 : Int)) ∧ g 61 = (bl (decide ((64 : Int) < 64))) ∧ g 132 = (agg u32 ([sa, sz, sc, se, sf, sg, sh, sk])) ∧ g 133 = (i64 3) ∧ g 134 = (bl true) ∧ True) ⟨s0, s1, s4, s5, s6, s7, s8, s9, s10, s11, rfl, rfl, s59, s60, s61, s132, rfl, rfl, trivial⟩ ?_
     rintro fr35 ⟨s0, s1, s4, s5, s6, s7, s8, s9, s10, s11, s16, s17, s59, s60, s61, s132, s133, s134, _⟩
     refine cw_region <| rw_q (v := (i64 4)) rfl (ev_i64_add (a := 3) (b := 1) s133 rfl oM oM) <| rw_q rfl (ev_move (v := (i64 4)) rfl) ?_
     refine rN (cr_succ (sR ?_))
     refine rw_q rfl (ev_i64_lss (a := 4) (b := 8) rfl rfl) ?_
     refine rN (cw_seq ?_)
     refine cw_cond_t rfl (by decide) ?_
     refine cw_skip (kThen_normal (cw_seq (cw_block (sR ?_))))
     refine rw_q rfl (ev_move (v := (i64 4)) rfl) <| rw_q (v := (u32 sf)) rfl (ev_index_agg (i := 4) uT94 uT55 rfl ti55 s132 rfl oM sD (get_clD _ _ 0 (by simp))) <| rw_q rfl (ev_assign (v := (i64 4)) rfl) <| rw_q rfl (ev_assign (v := (u32 sf)) rfl) <| rN <| cw_draw [(0, false), (1, false), (2, false), (3, false), (4, false), (5, false), (6, false), (7, false), (8, false), (9, false)] 10 (by kernel_rfl) ?_
     refine dM rfl rfl s0 <| dw_q rfl rfl (fun _ _hx => ev_move (v := (i64 4)) rfl) <| dw_q rfl rfl (fun _ _hx => ev_nilCheck rfl) <| dw_q rfl rfl (fun _ _hx => ev_fa (r := 0) uT96 rfl (by first | rfl | omega) ti94 rfl rfl) <| dw_q rfl rfl (fun _ _hx => ev_ia_arr (r := 4) (i := 4) oM uT94 ti55 rfl rfl oM oM) <| dw_q (v := (u32 x4)) rfl rfl (fun _ _hx => ev_load1 uT55 rfl rfl (hm34.ext _hx).h0 rfl) ?_
     refine dw_q rfl rfl (fun _ _hx => ev_move (v := (u32 sf)) rfl) <| dw_q rfl rfl (fun _ _hx => ev_u32_add rfl rfl) <| dw_q rfl rfl (fun _ _hx => ev_nilCheck rfl) <| dw_q rfl rfl (fun _ _hx => ev_fa (r := 0) uT96 rfl (by first | rfl | omega) ti94 rfl rfl) ?_
     refine dw_nil (fun w36 _ew36 => ?_)
     have hm36 := hm34.ext _ew36
     refine rw_q rfl (ev_ia_arr (r := 4) (i := 4) oM uT94 ti55 rfl rfl oM oM) <| rw_n (or_store1 ti55 rfl rfl (u32_one _) hm36.h0 (by simp) (.inl (Nat.zero_le _))) ?_
     rintro _ w37 uq37
     have hm37 : Mem w37 R [(bd, .cells #[(u32 (x0 + sa)), (u32 (x1 + sz)), (u32 (x2 + sc)), (u32 (x3 + se)), (u32 (x4 + sf)), (u32 x5), (u32 x6), (u32 x7), v, (u64 n)] 96 (0, 0))] := hm36.upd0 uq37
     refine rw_nil (kBlk_normal ?_)
     refine CW.abs (fun g => g 0 = (ptr bd 0) ∧ g 1 = vb ∧ g 4 = (u32 sa) ∧ g 5 = (u32 sz) ∧ g 6 = (u32 sc) ∧ g 7 = (u32 se) ∧ g 8 = (u32 sf) ∧ g 9 = (u32 sg) ∧ g 10 = (u32 sh) ∧ g 11 = (u32 sk) ∧ g 16 = (i64 4) ∧ g 17 = (u32 sf) ∧ g 59 = (agg u32 (schedP l)) ∧ g 60 = (i64 (64 : Int)) ∧ g 61 = (bl (decide ((64 : Int) < 64))) ∧ g 132 = (agg u32 ([sa, sz, sc, se, sf, sg, sh, sk])) ∧ g 133 = (i64 4) ∧ g 134 = (bl true) ∧ True) ⟨s0, s1, s4, s5, s6, s7, s8, s9, s10, s11, rfl, rfl, s59, s60, s61, s132, rfl, rfl, trivial⟩ ?_
     rintro fr38 ⟨s0, s1, s4, s5, s6, s7, s8, s9, s10, s11, s16, s17, s59, s60, s61, s132, s133, s134, _⟩
     refine cw_region <| rw_q (v := (i64 5)) rfl (ev_i64_add (a := 4) (b := 1) s133 rfl oM oM) <| rw_q rfl (ev_move (v := (i64 5)) rfl) ?_
     refine rN (cr_succ (sR ?_))
     refine rw_q rfl (ev_i64_lss (a := 5) (b := 8) rfl rfl) ?_
     refine rN (cw_seq ?_)
     refine cw_cond_t rfl (by decide) ?_
     refine cw_skip (kThen_normal (cw_seq (cw_block (sR ?_))))
     refine rw_q rfl (ev_move (v := (i64 5)) rfl) <| rw_q (v := (u32 sg)) rfl (ev_index_agg (i := 5) uT94 uT55 rfl ti55 s132 rfl oM sD (get_clD _ _ 0 (by simp))) <| rw_q rfl (ev_assign (v := (i64 5)) rfl) <| rw_q rfl (ev_assign (v := (u32 sg)) rfl) <| rN <| cw_draw [(0, false), (1, false), (2, false), (3, false), (4, false), (5, false), (6, false), (7, false), (8, false), (9, false)] 10 (by kernel_rfl) ?_
     refine dM rfl rfl s0 <| dw_q rfl rfl (fun _ _hx => ev_move (v := (i64 5)) rfl) <| dw_q rfl rfl (fun _ _hx => ev_nilCheck rfl) <| dw_q rfl rfl (fun _ _hx => ev_fa (r := 0) uT96 rfl (by first | rfl | omega) ti94 rfl rfl) <| dw_q rfl rfl (fun _ _hx => ev_ia_arr (r := 5) (i := 5) oM uT94 ti55 rfl rfl oM oM) <| dw_q (v := (u32 x5)) rfl rfl (fun _ _hx => ev_load1 uT55 rfl rfl (hm37.ext _hx).h0 rfl) ?_
     refine dw_q rfl rfl (fun _ _hx => ev_move (v := (u32 sg)) rfl) <| dw_q rfl rfl (fun _ _hx => ev_u32_add rfl rfl) <| dw_q rfl rfl (fun _ _hx => ev_nilCheck rfl) <| dw_q rfl rfl (fun _ _hx => ev_fa (r := 0) uT96 rfl (by first | rfl | omega) ti94 rfl rfl) ?_
     refine dw_nil (fun w39 _ew39 => ?_)
     have hm39 := hm37.ext _ew39
     refine rw_q rfl (ev_ia_arr (r := 5) (i := 5) oM uT94 ti55 rfl rfl oM oM) <| rw_n (or_store1 ti55 rfl rfl (u32_one _) hm39.h0 (by simp) (.inl (Nat.zero_le _))) ?_
     rintro _ w40 uq40
     have hm40 : Mem w40 R [(bd, .cells #[(u32 (x0 + sa)), (u32 (x1 + sz)), (u32 (x2 + sc)), (u32 (x3 + se)), (u32 (x4 + sf)), (u32 (x5 + sg)), (u32 x6), (u32 x7), v, (u64 n)] 96 (0, 0))] := hm39.upd0 uq40
     refine rw_nil (kBlk_normal ?_)
     refine CW.abs (fun g => g 0 = (ptr bd 0) ∧ g 1 = vb ∧ g 4 = (u32 sa) ∧ g 5 = (u32 sz) ∧ g 6 = (u32 sc) ∧ g 7 = (u32 se) ∧ g 8 = (u32 sf) ∧ g 9 = (u32 sg) ∧ g 10 = (u32 sh) ∧ g 11 = (u32 sk) ∧ g 16 = (i64 5) ∧ g 17 = (u32 sg) ∧ g 59 = (agg u32 (schedP l)) ∧ g 60 = (i64 (64 : Int)) ∧ g 61 = (bl (decide ((64 : Int) < 64))) ∧ g 132 = (agg u32 ([sa, sz, sc, se, sf, sg, sh, sk])) ∧ g 133 = (i64 5) ∧ g 134 = (bl true) ∧ True) ⟨s0, s1, s4, s5, s6, s7, s8, s9, s10, s11, rfl, rfl, s59, s60, s61, s132, rfl, rfl, trivial⟩ ?_
     rintro fr41 ⟨s0, s1, s4, s5, s6, s7, s8, s9, s10, s11, s16, s17, s59, s60, s61, s132, s133, s134, _⟩
     refine cw_region <| rw_q (v := (i64 6)) rfl (ev_i64_add (a := 5) (b := 1) s133 rfl oM oM) <| rw_q rfl (ev_move (v := (i64 6)) rfl) ?_
     refine rN (cr_succ (sR ?_))
     refine rw_q rfl (ev_i64_lss (a := 6) (b := 8) rfl rfl) ?_
     refine rN (cw_seq ?_)
     refine cw_cond_t rfl (by decide) ?_
     refine cw_skip (kThen_normal (cw_seq (cw_block (sR ?_))))
     refine rw_q rfl (ev_move (v := (i64 6)) rfl) <| rw_q (v := (u32 sh)) rfl (ev_index_agg (i := 6) uT94 uT55 rfl ti55 s132 rfl oM sD (get_clD _ _ 0 (by simp))) <| rw_q rfl (ev_assign (v := (i64 6)) rfl) <| rw_q rfl (ev_assign (v := (u32 sh)) rfl) <| rN <| cw_draw [(0, false), (1, false), (2, false), (3, false), (4, false), (5, false), (6, false), (7, false), (8, false), (9, false)] 10 (by kernel_rfl) ?_
     refine dM rfl rfl s0 <| dw_q rfl rfl (fun _ _hx => ev_move (v := (i64 6)) rfl) <| dw_q rfl rfl (fun _ _hx => ev_nilCheck rfl) <| dw_q rfl rfl (fun _ _hx => ev_fa (r := 0) uT96 rfl (by first | rfl | omega) ti94 rfl rfl) <| dw_q rfl rfl (fun _ _hx => ev_ia_arr (r := 6) (i := 6) oM uT94 ti55 rfl rfl oM oM) <| dw_q (v := (u32 x6)) rfl rfl (fun _ _hx => ev_load1 uT55 rfl rfl (hm40.ext _hx).h0 rfl) ?_
     refine dw_q rfl rfl (fun _ _hx => ev_move (v := (u32 sh)) rfl) <| dw_q rfl rfl (fun _ _hx => ev_u32_add rfl rfl) <| dw_q rfl rfl (fun _ _hx => ev_nilCheck rfl) <| dw_q rfl rfl (fun _ _hx => ev_fa (r := 0) uT96 rfl (by first | rfl | omega) ti94 rfl rfl) ?_
     refine dw_nil (fun w42 _ew42 => ?_)
     have hm42 := hm40.ext _ew42
     refine rw_q rfl (ev_ia_arr (r := 6) (i := 6) oM uT94 ti55 rfl rfl oM oM) <| rw_n (or_store1 ti55 rfl rfl (u32_one _) hm42.h0 (by simp) (.inl (Nat.zero_le _))) ?_
     rintro _ w43 uq43
     have hm43 : Mem w43 R [(bd, .cells #[(u32 (x0 + sa)), (u32 (x1 + sz)), (u32 (x2 + sc)), (u32 (x3 + se)), (u32 (x4 + sf)), (u32 (x5 + sg)), (u32 (x6 + sh)), (u32 x7), v, (u64 n)] 96 (0, 0))] := hm42.upd0 uq43
     refine rw_nil (kBlk_normal ?_)
     refine CW.abs (fun g => g 0 = (ptr bd 0) ∧ g 1 = vb ∧ g 4 = (u32 sa) ∧ g 5 = (u32 sz) ∧ g 6 = (u32 sc) ∧ g 7 = (u32 se) ∧ g 8 = (u32 sf) ∧ g 9 = (u32 sg) ∧ g 10 = (u32 sh) ∧ g 11 = (u32 sk) ∧ g 16 = (i64 6) ∧ g 17 = (u32 sh) ∧ g 59 = (agg u32 (schedP l)) ∧ g 60 = (i64 (64 : Int)) ∧ g 61 = (bl (decide ((64 : Int) < 64))) ∧ g 132 = (agg u32 ([sa, sz, sc, se, sf, sg, sh, sk])) ∧ g 133 = (i64 6) ∧ g 134 = (bl true) ∧ True) ⟨s0, s1, s4, s5, s6, s7, s8, s9, s10, s11, rfl, rfl, s59, s60, s61, s132, rfl, rfl, trivial⟩ ?_
     rintro fr44 ⟨s0, s1, s4, s5, s6, s7, s8, s9, s10, s11, s16, s17, s59, s60, s61, s132, s133, s134, _⟩
     refine cw_region <| rw_q (v := (i64 7)) rfl (ev_i64_add (a := 6) (b := 1) s133 rfl oM oM) <| rw_q rfl (ev_move (v := (i64 7)) rfl) ?_
     refine rN (cr_succ (sR ?_))
     refine rw_q rfl (ev_i64_lss (a := 7) (b := 8) rfl rfl) ?_
     refine rN (cw_seq ?_)
     refine cw_cond_t rfl (by decide) ?_
     refine cw_skip (kThen_normal (cw_seq (cw_block (sR ?_))))
     refine rw_q rfl (ev_move (v := (i64 7)) rfl) <| rw_q (v := (u32 sk)) rfl (ev_index_agg (i := 7) uT94 uT55 rfl ti55 s132 rfl oM sD (get_clD _ _ 0 (by simp))) <| rw_q rfl (ev_assign (v := (i64 7)) rfl) <| rw_q rfl (ev_assign (v := (u32 sk)) rfl) <| rN <| cw_draw [(0, false), (1, false), (2, false), (3, false), (4, false), (5, false), (6, false), (7, false), (8, false), (9, false)] 10 (by kernel_rfl) ?_
     refine dM rfl rfl s0 <| dw_q rfl rfl (fun _ _hx => ev_move (v := (i64 7)) rfl) <| dw_q rfl rfl (fun _ _hx => ev_nilCheck rfl) <| dw_q rfl rfl (fun _ _hx => ev_fa (r := 0) uT96 rfl (by first | rfl | omega) ti94 rfl rfl) <| dw_q rfl rfl (fun _ _hx => ev_ia_arr (r := 7) (i := 7) oM uT94 ti55 rfl rfl oM oM) <| dw_q (v := (u32 x7)) rfl rfl (fun _ _hx => ev_load1 uT55 rfl rfl (hm43.ext _hx).h0 rfl) ?_
     refine dw_q rfl rfl (fun _ _hx => ev_move (v := (u32 sk)) rfl) <| dw_q rfl rfl (fun _ _hx => ev_u32_add rfl rfl) <| dw_q rfl rfl (fun _ _hx => ev_nilCheck rfl) <| dw_q rfl rfl (fun _ _hx => ev_fa (r := 0) uT96 rfl (by first | rfl | omega) ti94 rfl rfl) ?_
     refine dw_nil (fun w45 _ew45 => ?_)
     have hm45 := hm43.ext _ew45
     refine rw_q rfl (ev_ia_arr (r := 7) (i := 7) oM uT94 ti55 rfl rfl oM oM) <| rw_n (or_store1 ti55 rfl rfl (u32_one _) hm45.h0 (by simp) (.inl (Nat.zero_le _))) ?_
     rintro _ w46 uq46
     have hm46 : Mem w46 R [(bd, .cells #[(u32 (x0 + sa)), (u32 (x1 + sz)), (u32 (x2 + sc)), (u32 (x3 + se)), (u32 (x4 + sf)), (u32 (x5 + sg)), (u32 (x6 + sh)), (u32 (x7 + sk)), v, (u64 n)] 96 (0, 0))] := hm45.upd0 uq46
     refine rw_nil (kBlk_normal ?_)
     refine CW.abs (fun g => g 0 = (ptr bd 0) ∧ g 1 = vb ∧ g 4 = (u32 sa) ∧ g 5 = (u32 sz) ∧ g 6 = (u32 sc) ∧ g 7 = (u32 se) ∧ g 8 = (u32 sf) ∧ g 9 = (u32 sg) ∧ g 10 = (u32 sh) ∧ g 11 = (u32 sk) ∧ g 16 = (i64 7) ∧ g 17 = (u32 sk) ∧ g 59 = (agg u32 (schedP l)) ∧ g 60 = (i64 (64 : Int)) ∧ g 61 = (bl (decide ((64 : Int) < 64))) ∧ g 132 = (agg u32 ([sa, sz, sc, se, sf, sg, sh, sk])) ∧ g 133 = (i64 7) ∧ g 134 = (bl true) ∧ True) ⟨s0, s1, s4, s5, s6, s7, s8, s9, s10, s11, rfl, rfl, s59, s60, s61, s132, rfl, rfl, trivial⟩ ?_
     rintro fr47 ⟨s0, s1, s4, s5, s6, s7, s8, s9, s10, s11, s16, s17, s59, s60, s61, s132, s133, s134, _⟩
     refine cw_region <| rw_q (v := (i64 8)) rfl (ev_i64_add (a := 7) (b := 1) s133 rfl oM oM) <| rw_q rfl (ev_move (v := (i64 8)) rfl) ?_
     refine rN (cr_succ (sR ?_))
     refine rw_q rfl (ev_i64_lss (a := 8) (b := 8) rfl rfl) ?_
     refine rN (cw_seq ?_)
     refine cw_cond_f rfl (by decide) <| cw_exit ?_
     refine kThen_exit (kThen_exit (kBlk_hit ?_))
     refine fnPost_normal [] trivial ?_
     exact ⟨_, _, _, _, _, _, _, _, by rw [takeP, ← hs]; rfl, hm46⟩


end Go.Proofs.YtmiagmbgfhakgaaDoor

