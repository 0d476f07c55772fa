/- Records laid, told, and whether they fit: contracts. Conditions: none beyond those that each theorem states. -/
import Derived.Test.YtfbnhoolkajebaaJo2
namespace Go.Proofs.Ytfbnhoolkajebaa
set_option linter.unusedVariables false
set_option linter.unusedSimpArgs false
/-! ### The newest generation -/
section
variable {ls : List (List (BitVec 8))} {ps : List WriteT}
def mostK (ls : List (List (BitVec 8))) (ps : List WriteT) : Nat → BitVec 64
  | 0 => 0
  | k + 1 => maxU (maxU (mostK ls ps k) (getB (((readB ls ps (k : Int)).drop 0).take 4))) (getB (((readB ls ps (k : Int)).drop 54).take 4))
theorem mostK_0 : 0#64 = mostK ls ps 0 := rfl
theorem mostK_S {k : Nat} : maxU (maxU (mostK ls ps k) (getB (((readB ls ps (k : Int)).drop 0).take 4))) (getB (((readB ls ps (k : Int)).drop 54).take 4)) = mostK ls ps (k + 1) := rfl
def newB (ls : List (List (BitVec 8))) (ps : List WriteT) : BitVec 64 := if (4294967295#64).toNat ≤ (mostK ls ps ls.length).toNat then 0#64 else mostK ls ps ls.length + 1#64
def fitsB (sz ja : Int) (n : Nat) : Bool := decide ((n : Int) ≤ sz * 42) && decide ((blocksN n : Int) ≤ sz - ja)
/-- How many blocks records take. -/
def roomB (L : List (List (BitVec 8))) : Nat := (L.map fun b => blocksN b.length).sum
theorem room_snoc (L : List (List (BitVec 8))) (b : List (BitVec 8)) : roomB (L ++ [b]) = roomB L + blocksN b.length := by simp [roomB]
end
theorem isNone_nil' {a : Option Addr} {m : Nat → Option Obj} {l : List (BitVec 8)} (h : a.isNone = true) (hc : ∀ i (h : i < l.length), ∃ b off c E fz, a = some ⟨b, off, none⟩ ∧ m b = some (.cells c E fz) ∧ c[off + i]? = some (u8 l[i])) : l = [] := by
  match l, hc with
  | [], _ => rfl
  | x :: l, hc =>
    obtain ⟨b, off, c, E, fz, e, _⟩ := hc 0 (by simp)
    subst e; cases h
theorem getD_mem {α : Type} {l : List α} {k : Nat} {d : α} (h : k < l.length) : l.getD k d ∈ l := by simp [List.getD_eq_getElem?_getD, h]
theorem take_map_succ {α β : Type} {l : List α} {k : Nat} {d : α} {f : α → β} (h : k < l.length) : (l.take k).map f ++ [f (l.getD k d)] = (l.take (k + 1)).map f := by
  rw [List.take_add_one, List.map_append]; simp [List.getD_eq_getElem?_getD, h, -List.map_take]
theorem readB_len {m : Nat → Option Obj} {vl vp : Value} {ls : List (List (BitVec 8))} {ps : List WriteT} {n : Int} (h : RdK m (encA u8) 64 vl ls) (h2 : RdK m encW 65 vp ps) : (readB ls ps n).length = 64 := by
  unfold readB
  split
  · rename_i hi
    have := inB_t hi
    unfold seenW
    split
    · rename_i w hw
      have hm : w ∈ ps := by simpa using List.mem_of_find?_eq_some hw
      have := h2.len w hm
      simpa [encW] using this
    · exact encA_b h oM
  · simp
attribute [local irreducible] crashB crashK pushB readB inB errB cutN seenW
attribute [local irreducible] markB putB getB getK partB placeF blkOf rawB writeK blocksN
attribute [local irreducible] mostK newB roomB
set_option maxHeartbeats 2000000 in
theorem c_clone (v : Value) (l : List (BitVec 8)) (w0 : World)  (hr : Rd (blks w0) u8 v l) (hl : l.length ≤ 35184372088832) : CallsR Try.prog 54 #[v] w0 (fun r w1 => ∃ Hs, Grow u8 5 r l Hs ∧ Mem w1 (restOf w0) Hs) := by
 refine callsR_of_cw (args := [v]) Try.func54 rfl Try.ntmps54 Try.results54 rfl ?_
 have hm0 : Mem w0 (restOf w0) [] := Mem.of_world w0
 have hr0 := hr
 obtain ⟨a, cap, rfl, hle, hce⟩ := hr.is
 refine sR <| rw_q rfl (ev_assign (v := (Value.slice none 0 0)) rfl) ?_
 refine rN (cw_seq (sR ?_))
 refine rw_q rfl (ev_move (v := (Value.slice a l.length cap)) rfl) <| rw_q rfl (ev_slnil_of uT23 rfl rfl) <| rN ?_
 refine cw_cond rfl (fun hc1 => ?_) (fun hc1 => ?_)
 · -- true
   refine sR <| rw_q rfl (ev_assign (v := (Value.slice none 0 0)) rfl) ?_
   refine rN (cw_ret (kThen_ret ?_))
   refine fnPost_ret [(Value.slice none 0 0)] ⟨rfl, trivial⟩ ?_
   obtain rfl : l = [] := isNone_nil' hc1 hce
   exact ⟨[], Grow.none u8 5, hm0⟩
 · -- false
   refine cw_skip (kThen_normal (sR ?_))
   refine rw_c rfl (or_buildSlice_cl u8 [] u8_one hm0 uT23 ti5 rfl (by simp [pairs]) rfl) ?_
   rintro _ w2 ⟨b5, rfl, _ew2, hm2⟩
   refine rw_q rfl (ev_move (v := (Value.slice a l.length cap)) rfl) <| rw_c rfl (or_append (f := u8) (Hs := [(b5, .cells (cl u8 ([])) 5 (0, 0))]) (H := []) hm2 (Grow.of u8 5 b5 ([])) rfl rfl (Rd.ofRest hr0 hm2) uT23 uT23 ti5 rfl u8_one sL sL) ?_
   rintro sv3 w3 ⟨Hs3, hm3, g3⟩
   replace g3 : Grow u8 5 sv3 l Hs3 := g3
   refine rA rfl (v := sv3) rfl ?_
   refine rN (cw_ret ?_)
   refine fnPost_ret [sv3] ⟨rfl, trivial⟩ ?_
   exact ⟨Hs3, g3, by simpa using hm3⟩

set_option maxHeartbeats 2000000 in
theorem c_jlay (bj : Nat) (fr0 sz : Int) (ge : BitVec 64) (vr : Value) (rs : List SlT) (Hr : List (Nat × Obj)) (ja : Int) (bd : Nat) (vl : Value) (ls : List (List (BitVec 8))) (Hl : List (Nat × Obj)) (vp : Value) (ps : List WriteT) (Hp : List (Nat × Obj)) (vb : Value) (b : List (BitVec 8)) (w0 : World) (R : Rest) (hm0 : Mem w0 R ([(bj, .cells #[(ptr bd 0), (i64 fr0), (i64 sz), (u64 ge), vr, (i64 ja)] 100 (0, 0))] ++ (Hr ++ ([(bd, .cells #[vl, vp] 94 (0, 0))] ++ (Hl ++ (Hp ++ ([]))))))) (gr : GrowL mN 23 vr rs Hr) (gl : GrowK (encA u8) 64 83 vl ls Hl) (gp : GrowK encW 65 104 vp ps Hp) (hb : Rd R.blk u8 vb b) (hll : ls.length ≤ 65536) (hpl : ps.length + b.length ≤ 1048000) (hfr : 0 ≤ fr0 ∧ fr0 ≤ 1048576) (hps : 0 ≤ ja ∧ ja ≤ 1048576) (hrl : rs.length ≤ 1048576) : CallsR Try.prog 52 #[(ptr bj 0), vb] w0 (fun r w1 => ∃ vr2 rs2 Hr2 vp2 Hp2, r = .tuple #[] ∧ rs2.map (·.2) = rs.map (·.2) ++ [b] ∧ rs2.length = rs.length + 1 ∧ GrowL mN 23 vr2 rs2 Hr2 ∧ GrowK encW 65 104 vp2 (writeK ls ps (fr0 + ja) ge (BitVec.ofInt 64 (rs.length : Int)) b (blocksN b.length)) Hp2 ∧ Mem w1 R ([(bj, .cells #[(ptr bd 0), (i64 fr0), (i64 sz), (u64 ge), vr2, (i64 (ja + (blocksN b.length : Int)))] 100 (0, 0))] ++ (Hr2 ++ ([(bd, .cells #[vl, vp2] 94 (0, 0))] ++ (Hl ++ (Hp2 ++ ([]))))))) := by
 refine callsR_of_cw (args := [(ptr bj 0), vb]) Try.func52 rfl Try.ntmps52 Try.results52 rfl ?_
 have hbn := blocksN_pos b.length
 refine cw_seq <| cw_draw [(0, false), (1, false), (2, false), (3, false), (4, false), (5, false), (6, false), (7, false), (8, false), (9, false), (10, false), (11, false), (12, false)] 13 (by kernel_rfl) <| dw_q rfl rfl (fun _ _hx => ev_move (v := (ptr bj 0)) rfl) <| dw_q rfl rfl (fun _ _hx => ev_move (v := (ptr bj 0)) rfl) <| dw_q rfl rfl (fun _ _hx => ev_nilCheck rfl) <| dw_q rfl rfl (fun _ _hx => ev_fa (r := 1) uT100 rfl (by first | rfl | omega) ti97 rfl rfl) ?_
 refine dw_q rfl rfl (fun _ _hx => ev_fa (r := 4) uT97 rfl (by first | rfl | omega) ti22 rfl rfl) <| dw_q (v := vr) rfl rfl (fun _ _hx => ev_load1 uT22 rfl rfl (hm0.ext _hx).h0 rfl) <| dw_q (v := (i64 (rs.length : Int))) rfl rfl (fun _ _hx => ev_len_rd (RdL.row (GrowL.rd gr (Mem.pick [_] Hr _ (hm0.ext _hx)) nN)) uT22 rfl) <| dw_q rfl rfl (fun _ _hx => ev_move (v := (ptr bj 0)) rfl) <| dw_q rfl rfl (fun _ _hx => ev_nilCheck rfl) <| dw_q rfl rfl (fun _ _hx => ev_fa (r := 1) uT100 rfl (by first | rfl | omega) ti97 rfl rfl) ?_
 refine dw_q rfl rfl (fun _ _hx => ev_fa (r := 5) uT97 rfl (by first | rfl | omega) ti3 rfl rfl) <| dw_q (v := (i64 ja)) rfl rfl (fun _ _hx => ev_load1 uT3 rfl rfl (hm0.ext _hx).h0 rfl) <| dM rfl rfl (v := vb) rfl ?_
 refine dw_nil (fun w1 _ew1 => ?_)
 have hm1 := hm0.ext _ew1
 have hF3 : Mem w1 R (([(bd, .cells #[vl, vp] 94 (0, 0))] ++ (Hl ++ (Hp ++ ([])))) ++ ([(bj, .cells #[(ptr bd 0), (i64 fr0), (i64 sz), (u64 ge), vr, (i64 ja)] 100 (0, 0))] ++ (Hr ++ ([])))) := by
   have hT := (Mem.pick4 Hl Hp [_] Hr [_] _ (Mem.pick4 Hp [_] Hr [_] Hl _ (Mem.pick4 [_] Hr [_] Hl Hp _ hm1)))
   try simp only [List.append_assoc, List.cons_append, List.nil_append, List.append_nil] at hT ⊢
   exact hT
 refine rw_c rfl (opR_call Try.func72 bd72 nm72 (args4 rfl rfl rfl rfl) (c_jwrite bd vl ls Hl vp ps Hp bj fr0 sz ge vr ja (rs.length : Int) ja vb b _ _ (Mem.give hF3) gl gp (Mem.addOwn hF3 (List.mem_append_left _ (List.Mem.head _))) (Rd.addRest hF3 hb) sL sL sL sL)) ?_
 rintro _ w2 ⟨vp2q4, Hp2q4, rfl, gp2q4, k_w2⟩
 have hm2 : Mem w2 R ([(bd, .cells #[vl, vp2q4] 94 (0, 0))] ++ (Hl ++ (Hp2q4 ++ ([(bj, .cells #[(ptr bd 0), (i64 fr0), (i64 sz), (u64 ge), vr, (i64 ja)] 100 (0, 0))] ++ (Hr ++ ([])))))) := (by
   have hT := Mem.back hF3 k_w2
   try simp only [List.append_assoc, List.cons_append, List.nil_append, List.append_nil] at hT ⊢
   exact hT)
 refine rN (cw_seq ?_)
 refine cw_draw [(0, false), (1, false), (2, false), (3, false), (4, false), (5, false), (6, false), (7, false)] 8 (by kernel_rfl) <| dw_q rfl rfl (fun _ _hx => ev_move (v := (ptr bj 0)) rfl) <| dw_q rfl rfl (fun _ _hx => ev_nilCheck rfl) <| dw_q rfl rfl (fun _ _hx => ev_fa (r := 1) uT100 rfl (by first | rfl | omega) ti97 rfl rfl) <| dw_q rfl rfl (fun _ _hx => ev_fa (r := 5) uT97 rfl (by first | rfl | omega) ti3 rfl rfl) <| dw_q (v := (i64 ja)) rfl rfl (fun _ _hx => ev_load1 uT3 rfl rfl ((Mem.pick3 [_] Hl Hp2q4 [_] _ (hm2.ext _hx))).h0 rfl) ?_
 refine dM rfl rfl (v := vb) rfl <| dw_q (v := (i64 (b.length : Int))) rfl rfl (fun _ _hx => ev_len_rd (Rd.ofRest hb (hm2.ext _hx)) uT23 rfl) <| dw_x (v := (i64 (blocksN b.length : Int))) rfl rfl (fun w5 _ew5 => OpR.mono (opR_call Try.func53 bd53 nm53 (args1 rfl) (c_jblocks b.length _ sL)) (by rintro _ w6 ⟨rfl, _ew6⟩; exact ⟨rfl, _ew6⟩)) ?_
 refine dw_nil (fun w8 _ew8 => ?_)
 have hm8 := hm2.ext _ew8
 refine rw_q rfl (ev_i64_add rfl rfl oM oM) <| rw_q rfl (ev_nilCheck rfl) <| rw_q rfl (ev_fa (r := 1) uT100 rfl (by first | rfl | omega) ti97 rfl rfl) <| rw_q rfl (ev_fa (r := 5) uT97 rfl (by first | rfl | omega) ti3 rfl rfl) <| rw_n (or_store1 ti3 rfl rfl (i64_one _) ((Mem.pick3 [_] Hl Hp2q4 [_] _ hm8)).h0 (by simp) (.inl (Nat.zero_le _))) ?_
 rintro _ w9 uq9
 have hm9 : Mem w9 R ([(bj, .cells #[(ptr bd 0), (i64 fr0), (i64 sz), (u64 ge), vr, (i64 (ja + (blocksN b.length : Int)))] 100 (0, 0)), (bd, .cells #[vl, vp2q4] 94 (0, 0))] ++ (Hl ++ (Hp2q4 ++ (Hr ++ ([]))))) := Mem.upd0 (Mem.pick3 [_] Hl Hp2q4 [_] _ hm8) uq9
 refine rN ?_
 refine CW.abs (fun g => g 0 = (ptr bj 0) ∧ g 1 = vb ∧ True) ⟨rfl, rfl, trivial⟩ ?_
 rintro fr10 ⟨s0, s1, _⟩
 refine cw_drawE (by kernel_rfl) ?_
 have hm11 := (Mem.pick2 [_, _] Hl Hp2q4 _ hm9)
 have hm12 := (Mem.pick2 Hp2q4 [_, _] Hl _ hm11)
 have hm13 := (Mem.pick3 Hl Hp2q4 [_] [_] _ hm12)
 have hm14 := (Mem.pick3 [_] Hl Hp2q4 [_] _ hm13)
 have hm15 := (Mem.pick3 [_, _] Hl Hp2q4 Hr _ hm14)
 have hFM16 : Mem w9 R ((Hr ++ ([])) ++ ([(bj, .cells #[(ptr bd 0), (i64 fr0), (i64 sz), (u64 ge), vr, (i64 (ja + (blocksN b.length : Int)))] 100 (0, 0)), (bd, .cells #[vl, vp2q4] 94 (0, 0))] ++ (Hl ++ (Hp2q4 ++ ([]))))) := (by
   have hT := hm15
   try simp only [List.append_assoc, List.cons_append, List.nil_append, List.append_nil] at hT ⊢
   exact hT)
 obtain ⟨RM16, hRM16⟩ : ∃ R2, R2 = Rest.add R ([(bj, .cells #[(ptr bd 0), (i64 fr0), (i64 sz), (u64 ge), vr, (i64 (ja + (blocksN b.length : Int)))] 100 (0, 0)), (bd, .cells #[vl, vp2q4] 94 (0, 0))] ++ (Hl ++ (Hp2q4 ++ ([])))) := ⟨_, rfl⟩
 have M160 : Mem w9 RM16 (Hr ++ ([])) := by rw [hRM16]; exact Mem.give hFM16
 have hr17 : Rd RM16.blk u8 vb b := by rw [hRM16]; exact Rd.mono hb fun b o e => Mem.addRest hFM16 e
 have ho18 : RM16.blk bj = some (.cells #[(ptr bd 0), (i64 fr0), (i64 sz), (u64 ge), vr, (i64 (ja + (blocksN b.length : Int)))] 100 (0, 0)) := by rw [hRM16]; exact Mem.addOwn hFM16 (List.mem_append_left _ (List.Mem.head _))
 have ho19 : RM16.blk bd = some (.cells #[vl, vp2q4] 94 (0, 0)) := by rw [hRM16]; exact Mem.addOwn hFM16 (List.mem_append_left _ (List.Mem.tail _ (List.Mem.head _)))
 have hg20 : RdK RM16.blk (encA u8) 64 vl ls := gl.rdIn (fun p hp => by rw [hRM16]; exact Mem.addOwn hFM16 (List.mem_append_right _ (List.mem_append_left _ hp)))
 have hg21 : RdK RM16.blk encW 65 vp2q4 (writeK ls ps (fr0 + ja) ge (BitVec.ofInt 64 (rs.length : Int)) b (blocksN b.length)) := gp2q4.rdIn (fun p hp => by rw [hRM16]; exact Mem.addOwn hFM16 (List.mem_append_right _ (List.mem_append_right _ (List.mem_append_left _ hp))))
 refine re_planM M160 [(0, false), (1, false), (2, false), (3, false), (4, false), (5, false), (6, false), (7, true), (8, true), (9, true)] 10 rfl (by kernel_rfl) <| dk_q rfl rfl (fun w _H _hx => ev_move s0) <| dk_q rfl rfl (fun w _H _hx => ev_move s0) <| dk_q rfl rfl (fun w _H _hx => ev_nilCheck rfl) <| dk_q rfl rfl (fun w _H _hx => ev_fa (r := 1) uT100 rfl (by first | rfl | omega) ti97 rfl rfl) <| dk_q rfl rfl (fun w _H _hx => ev_fa (r := 4) uT97 rfl (by first | rfl | omega) ti22 rfl rfl) ?_
 refine dk_q (v := vr) rfl rfl (fun w _H _hx => ev_load1 uT22 rfl rfl (_hx.rest _ _ ho18) rfl) <| dk_q rfl rfl (fun w _H _hx => ev_move s1) ?_
 refine dk_c rfl rfl (fun w22 _ew22 => ?_)
 have hm22 := M160.ext _ew22
 refine OpR.mono (opR_call Try.func54 bd54 nm54 (args1 rfl) (c_clone vb b _ (Rd.ofRest hr17 hm22) sL)) ?_
 rintro rq24 w23 ⟨Hsq24, grq24, k_w23⟩
 have hm23 : Mem w23 RM16 (Hsq24 ++ (Hr ++ ([]))) := Mem.new (H := Hr ++ ([])) (H' := Hsq24) hm22 k_w23
 refine ⟨⟨_, hm23⟩, ?_⟩
 refine dk_c rfl rfl (fun w25 _ew25 => ?_)
 have hm25 := hm23.ext _ew25
 refine OpR.mono (or_buildSlice_ones [rq24] (List.all_eq_true.1 (one_cons grq24.one one_nil)) hm25 uT22 ti23 rfl rfl rfl) ?_
 rintro _ w26 ⟨b38, rfl, _ew26, hm26⟩
 have hm26 : Mem w26 RM16 ([(b38, .cells #[rq24] 23 (0, 0))] ++ (Hsq24 ++ (Hr ++ ([])))) := hm26
 refine ⟨⟨_, hm26⟩, ?_⟩
 refine dk_c rfl rfl (fun w27 _ew27 => ?_)
 have hm27 := hm26.ext _ew27
 refine OpR.mono (or_appendL (Hs := Hr) (Hv := Hsq24) (H := [(b38, .cells #[rq24] 23 (0, 0))]) (u0 := rq24) (l0 := b) (show Mem _ _ (Hr ++ (Hsq24 ++ [(b38, .cells #[rq24] 23 (0, 0))])) from (Mem.pick2 Hsq24 [_] Hr _ (Mem.pick [_] Hsq24 _ hm27))) gr rfl rfl (Rd.oneS (l := b) hm27.h0 (Grow.toSl b grq24)) (Grow.toSl b grq24) (el_grow grq24) uT22 uT22 ti23 rfl sL sL) ?_
 rintro sv28 w28 ⟨ls28, Hs28, hM28, hL28, hm28, g28⟩
 refine ⟨⟨_, hm28⟩, ?_⟩
 refine dw_nil (fun w29 _ew29 => ?_)
 have hm29 := hm28.ext _ew29
 have hX30 := hm29
 rw [hRM16] at hX30
 have hm31 : Mem w29 R (Hs28 ++ ([(b38, .cells #[rq24] 23 (0, 0)), (bj, .cells #[(ptr bd 0), (i64 fr0), (i64 sz), (u64 ge), vr, (i64 (ja + (blocksN b.length : Int)))] 100 (0, 0)), (bd, .cells #[vl, vp2q4] 94 (0, 0))] ++ (Hl ++ (Hp2q4 ++ ([]))))) := (by
   have hT := Mem.back hFM16 hX30
   try simp only [List.append_assoc, List.cons_append, List.nil_append, List.append_nil] at hT ⊢
   exact hT)
 refine rw_q rfl (ev_nilCheck rfl) <| rw_q rfl (ev_fa (r := 1) uT100 rfl (by first | rfl | omega) ti97 rfl rfl) <| rw_q rfl (ev_fa (r := 4) uT97 rfl (by first | rfl | omega) ti22 rfl rfl) <| rw_n (or_store1 ti22 rfl rfl g28.one ((Mem.pick2 Hs28 [_] [_] _ hm31)).h0 (by simp) (.inl (Nat.zero_le _))) ?_
 rintro _ w32 uq32
 have hm32 : Mem w32 R ([(bj, .cells #[(ptr bd 0), (i64 fr0), (i64 sz), (u64 ge), sv28, (i64 (ja + (blocksN b.length : Int)))] 100 (0, 0))] ++ (Hs28 ++ ([(b38, .cells #[rq24] 23 (0, 0)), (bd, .cells #[vl, vp2q4] 94 (0, 0))] ++ (Hl ++ (Hp2q4 ++ ([])))))) := Mem.upd0 (Mem.pick2 Hs28 [_] [_] _ hm31) uq32
 refine rw_nil <| fnPost_normal [] trivial ?_
 have hm33 := Mem.drop ([(b38, .cells #[rq24] 23 (0, 0))]) _ (Mem.pick2 [_] Hs28 [_] _ hm32)
 exact ⟨sv28, ls28, Hs28, vp2q4, Hp2q4, rfl, hM28, hL28, g28, gp2q4, (by
   have hT := hm33
   try simp only [List.append_assoc, List.cons_append, List.nil_append, List.append_nil] at hT ⊢
   exact hT)⟩

set_option maxHeartbeats 2000000 in
theorem c_jrecords (bj bd : Nat) (fr0 sz : Int) (ge : BitVec 64) (vr : Value) (rs : List SlT) (ja : Int) (w0 : World)  (hj : blks w0 bj = some (.cells #[ptr bd 0, i64 fr0, i64 sz, u64 ge, vr, i64 ja] 100 (0, 0))) (hrl : RdL (blks w0) vr rs) (hrn : rs.length ≤ 1048576) (hre : ∀ p ∈ rs, p.2.length ≤ 35184372088832) : CallsR Try.prog 19 #[(ptr bj 0)] w0 (fun r w1 => ∃ ls2 Hs, ls2.map (·.2) = rs.map (·.2) ∧ ls2.length = rs.length ∧ GrowL mN 23 r ls2 Hs ∧ Mem w1 (restOf w0) Hs) := by
 refine callsR_of_cw (args := [(ptr bj 0)]) Try.func19 rfl Try.ntmps19 Try.results19 rfl ?_
 have hm0 : Mem w0 (restOf w0) [] := Mem.of_world w0
 refine sR <| rw_q rfl (ev_assign (v := (Value.slice none 0 0)) rfl) ?_
 refine rN (cw_seq (sR ?_))
 refine rw_q rfl (ev_move (v := (ptr bj 0)) rfl) <| rw_q rfl (ev_nilCheck rfl) <| rw_q rfl (ev_fa (r := 1) uT100 rfl (by first | rfl | omega) ti97 rfl rfl) <| rw_q rfl (ev_fa (r := 4) uT97 rfl (by first | rfl | omega) ti22 rfl rfl) <| rw_q (v := vr) rfl (ev_load1 uT22 rfl rfl (hm0.rest _ _ hj) rfl) <| rw_q (v := (i64 (rs.length : Int))) rfl (ev_len_rd (RdL.row (RdL.ofRest (R := (restOf w0)) hrl hm0)) uT22 rfl) ?_
 refine rw_q rfl (ev_move (v := (i64 0)) rfl) ?_
 refine rN (cw_block ?_)
 refine cw_loop (fun g wv => ∃ (k : Nat) (vk : Value) (lk : List SlT) (Hk : List (Nat × Obj)), (k ≤ rs.length) ∧ (lk.map (·.2) = (rs.take k).map (·.2)) ∧ (lk.length = k) ∧ (GrowL mN 23 vk lk Hk) ∧ g 0 = (ptr bj 0) ∧ g 2 = vk ∧ g 9 = vr ∧ g 10 = (i64 (rs.length : Int)) ∧ g 11 = (i64 (k : Int)) ∧ Mem wv (restOf w0) (Hk ++ ([]))) (fun g wv => ((rs.length : Int) - RowKit.intOf (g 11)).toNat) ?_ ?_
 · exact ⟨0, (Value.slice none 0 0), [], [], (Nat.zero_le _), rfl, rfl, (GrowL.none mN 23), rfl, rfl, rfl, rfl, rfl, hm0⟩
 · rintro fr1 w2 ⟨k, vk, lk, Hk, hk, hlk, hlen, gk, s0, s2, s9, s10, s11, hm2⟩
   have z2 := s2
   have z11 := s11
   refine sR <| rw_q rfl (ev_i64_lss s11 s10) ?_
   refine rN (cw_seq ?_)
   refine cw_cond rfl (fun hc3 => ?_) (fun hc3 => ?_)
   · -- true
     have hc3p := of_decide_eq_true hc3
     have hek := hre _ (getD_mem (d := sl0) (show k < rs.length by omega))
     refine cw_skip (kThen_normal (cw_seq (cw_block (sR ?_))))
     refine rw_q rfl (ev_indexAddr_rdv (RdL.row (RdL.ofRest (R := (restOf w0)) hrl hm2)) uT22 ti23 s9 s11 oM sL) <| rw_q (v := (slv (rs.getD k sl0))) rfl (ev_load_rdD (l := rs) (i := (k : Int)) (dflt := sl0) (RdL.row (RdL.ofRest (R := (restOf w0)) hrl hm2)) uT23 rfl oM sL rfl) <| rw_q rfl (ev_assign (v := (slv (rs.getD k sl0))) rfl) ?_
     refine rN (cw_region ?_)
     refine rM rfl s2 <| rw_q rfl (ev_move (v := (slv (rs.getD k sl0))) rfl) <| rw_c rfl (opR_call Try.func54 bd54 nm54 (args1 rfl) (c_clone (slv (rs.getD k sl0)) ((rs.getD k sl0).2) _ (RdL.get (k := k) (RdL.ofRest (R := (restOf w0)) hrl hm2) sL) sL)) ?_
     rintro rq5 w4 ⟨Hsq5, grq5, k_w4⟩
     have hm4 : Mem w4 (restOf w0) (Hsq5 ++ (Hk ++ ([]))) := Mem.new (H := Hk ++ ([])) (H' := Hsq5) hm2 k_w4
     refine rw_c rfl (or_buildSlice_ones [rq5] (List.all_eq_true.1 (one_cons grq5.one one_nil)) hm4 uT22 ti23 rfl rfl rfl) ?_
     rintro _ w6 ⟨b18, rfl, _ew6, hm6⟩
     have hm6 : Mem w6 (restOf w0) ([(b18, .cells #[rq5] 23 (0, 0))] ++ (Hsq5 ++ (Hk ++ ([])))) := hm6
     refine rw_c rfl (or_appendL (Hs := Hk) (Hv := Hsq5) (H := [(b18, .cells #[rq5] 23 (0, 0))]) (u0 := rq5) (l0 := ((rs.getD k sl0).2)) (show Mem _ _ (Hk ++ (Hsq5 ++ [(b18, .cells #[rq5] 23 (0, 0))])) from (Mem.pick2 Hsq5 [_] Hk _ (Mem.pick [_] Hsq5 _ hm6))) gk rfl rfl (Rd.oneS (l := ((rs.getD k sl0).2)) hm6.h0 (Grow.toSl ((rs.getD k sl0).2) grq5)) (Grow.toSl ((rs.getD k sl0).2) grq5) (el_grow grq5) uT22 uT22 ti23 rfl sL sL) ?_
     rintro sv7 w7 ⟨ls7, Hs7, hM7, hL7, hm7, g7⟩
     refine rA rfl (v := sv7) rfl ?_
     refine rw_nil (kBlk_normal (cw_region ?_))
     refine rw_q rfl (ev_i64_add (b := 1) s11 rfl oM oM) <| rw_q rfl (ev_move (v := (i64 ((k : Int) + 1))) rfl) <| rN ?_
     have hm8 := Mem.drop ([(b18, .cells #[rq5] 23 (0, 0))]) _ (Mem.pick Hs7 [_] _ hm7)
     exact ⟨⟨(k + 1), sv7, ls7, Hs7, oM, (by rw [hM7, hlk, take_map_succ (d := sl0) (f := fun p : SlT => p.2) oM]), oM, g7, s0, rfl, s9, s10, rfl, hm8⟩, meas rfl z11 oM oM⟩
   · -- false
     have hc3p := of_decide_eq_false hc3
     refine cw_exit ?_
     refine kThen_exit (kThen_exit (kBlk_hit ?_))
     refine sR <| rM rfl s2 <| rA rfl (v := vk) rfl ?_
     refine rN (cw_ret ?_)
     refine fnPost_ret [vk] ⟨rfl, trivial⟩ ?_
     exact ⟨lk, Hk, (by rw [hlk, List.take_of_length_le oM]), oM, gk, by simpa using hm2⟩

set_option maxHeartbeats 2000000 in
theorem c_jfits (bj bd : Nat) (fr0 sz : Int) (ge : BitVec 64) (vr : Value) (ja : Int) (n : Nat) (w0 : World)  (hj : blks w0 bj = some (.cells #[ptr bd 0, i64 fr0, i64 sz, u64 ge, vr, i64 ja] 100 (0, 0))) (hn : n ≤ 1048576) (hsz : 0 ≤ sz ∧ sz ≤ 1048576) (hja : 0 ≤ ja ∧ ja ≤ 1048576) : CallsR Try.prog 16 #[(ptr bj 0), (i64 (n : Int))] w0 (fun r w1 => r = (bl (fitsB sz ja n)) ∧ Ext w0 w1) := by
 refine callsR_of_cw (args := [(ptr bj 0), (i64 (n : Int))]) Try.func16 rfl Try.ntmps16 Try.results16 rfl ?_
 have hm0 : Mem w0 (restOf w0) [] := Mem.of_world w0
 refine sR <| rw_q rfl (ev_assign (v := (bl false)) rfl) ?_
 refine rN (cw_seq ?_)
 refine cw_draw [(0, false), (1, false), (2, false), (3, false), (4, false), (5, false), (6, false), (7, false), (8, false), (9, false), (10, false), (11, false), (12, false), (13, false), (14, false), (15, false), (16, false), (17, false), (18, false), (19, false), (20, false), (21, false), (22, false), (23, false), (24, false), (25, false)] 26 (by kernel_rfl) <| dw_q rfl rfl (fun _ _hx => ev_move (v := (i64 (n : Int))) rfl) <| dw_q rfl rfl (fun _ _hx => ev_i64_geq (b := 0) rfl rfl) <| dw_q rfl rfl (fun _ _hx => ev_move (v := (bl (decide (0 ≤ (n : Int))))) rfl) ?_
 have hd1 : (decide (0 ≤ (n : Int))) = true := decide_eq_true oM
 refine dw_gqy (s := 7) rfl rfl rfl hd1 rfl (fun _ _hx => ev_move (v := (i64 (n : Int))) rfl) <| dw_gqy (s := 7) rfl rfl rfl hd1 rfl (fun _ _hx => ev_move (v := (ptr bj 0)) rfl) <| dw_gqy (s := 7) rfl rfl rfl hd1 rfl (fun _ _hx => ev_nilCheck rfl) <| dw_gqy (s := 7) rfl rfl rfl hd1 rfl (fun _ _hx => ev_fa (r := 1) uT100 rfl (by first | rfl | omega) ti97 rfl rfl) <| dw_gqy (s := 7) rfl rfl rfl hd1 rfl (fun _ _hx => ev_fa (r := 2) uT97 rfl (by first | rfl | omega) ti3 rfl rfl) <| dw_gqy (s := 7) rfl rfl rfl hd1 rfl (fun _ _hx => ev_load1 uT3 rfl rfl ((hm0.ext _hx).rest _ _ hj) rfl) ?_
 refine dw_gqy (s := 7) rfl rfl rfl hd1 rfl (fun _ _hx => ev_i64_mul (b := 42) rfl rfl oM oM) <| dw_gqy (s := 7) rfl rfl rfl hd1 rfl (fun _ _hx => ev_i64_leq rfl rfl) <| dw_q rfl rfl (fun _ _hx => ev_pick_tk rfl hd1 rfl) <| dw_q rfl rfl (fun _ _hx => ev_move (v := (bl (decide ((n : Int) ≤ (sz * 42))))) rfl) ?_
 rcases Bool.eq_false_or_eq_true (decide ((n : Int) ≤ (sz * 42))) with hb2 | hb2
 · -- true
   have hb2p := of_decide_eq_true hb2
   refine dw_gqy (s := 17) rfl rfl rfl hb2 rfl (fun _ _hx => ev_move (v := (i64 (n : Int))) rfl) <| dw_gxy (s := 17) (v := (i64 (blocksN n : Int))) rfl rfl rfl hb2 rfl (fun w3 _ew3 => OpR.mono (opR_call Try.func53 bd53 nm53 (args1 rfl) (c_jblocks n _ sL)) (by rintro _ w4 ⟨rfl, _ew4⟩; exact ⟨rfl, _ew4⟩)) <| dw_gqy (s := 17) rfl rfl rfl hb2 rfl (fun _ _hx => ev_move (v := (ptr bj 0)) rfl) <| dw_gqy (s := 17) rfl rfl rfl hb2 rfl (fun _ _hx => ev_nilCheck rfl) <| dw_gqy (s := 17) rfl rfl rfl hb2 rfl (fun _ _hx => ev_fa (r := 1) uT100 rfl (by first | rfl | omega) ti97 rfl rfl) <| dw_gqy (s := 17) rfl rfl rfl hb2 rfl (fun _ _hx => ev_fa (r := 2) uT97 rfl (by first | rfl | omega) ti3 rfl rfl) ?_
   refine dw_gqy (s := 17) rfl rfl rfl hb2 rfl (fun _ _hx => ev_load1 uT3 rfl rfl ((hm0.ext _hx).rest _ _ hj) rfl) <| dw_gqy (s := 17) rfl rfl rfl hb2 rfl (fun _ _hx => ev_move (v := (ptr bj 0)) rfl) <| dw_gqy (s := 17) rfl rfl rfl hb2 rfl (fun _ _hx => ev_nilCheck rfl) <| dw_gqy (s := 17) rfl rfl rfl hb2 rfl (fun _ _hx => ev_fa (r := 1) uT100 rfl (by first | rfl | omega) ti97 rfl rfl) <| dw_gqy (s := 17) rfl rfl rfl hb2 rfl (fun _ _hx => ev_fa (r := 5) uT97 rfl (by first | rfl | omega) ti3 rfl rfl) <| dw_gqy (s := 17) rfl rfl rfl hb2 rfl (fun _ _hx => ev_load1 uT3 rfl rfl ((hm0.ext _hx).rest _ _ hj) rfl) ?_
   refine dw_gqy (s := 17) rfl rfl rfl hb2 rfl (fun _ _hx => ev_i64_sub rfl rfl oM oM) ?_
   refine dw_nil (fun w6 _ew6 => ?_)
   have hm6 := hm0.ext _ew6
   refine rw_gyq (s := 17) rfl rfl hb2 rfl (ev_i64_leq rfl rfl) <| rw_q rfl (ev_pick_tk rfl hb2 rfl) <| rw_q rfl (ev_assign (v := (bl (decide ((blocksN n : Int) ≤ (sz - ja))))) rfl) <| rN ?_
   refine CW.abs (fun g => g 0 = (ptr bj 0) ∧ g 1 = (i64 (n : Int)) ∧ g 4 = (bl (decide ((blocksN n : Int) ≤ (sz - ja)))) ∧ True) ⟨rfl, rfl, rfl, trivial⟩ ?_
   rintro fr7 ⟨s0, s1, s4, _⟩
   refine cw_ret <| fnPost_ret [(bl (decide ((blocksN n : Int) ≤ (sz - ja))))] ⟨s4, trivial⟩ ?_
   exact ⟨congrArg bl (by unfold fitsB; simp [hb2]), hm6.toExt⟩
 · -- false
   have hb2p := of_decide_eq_false hb2
   refine dw_gqn (s := 17) rfl rfl rfl hb2 rfl <| dw_gqn (s := 17) rfl rfl rfl hb2 rfl <| dw_gqn (s := 17) rfl rfl rfl hb2 rfl <| dw_gqn (s := 17) rfl rfl rfl hb2 rfl <| dw_gqn (s := 17) rfl rfl rfl hb2 rfl <| dw_gqn (s := 17) rfl rfl rfl hb2 rfl ?_
   refine dw_gqn (s := 17) rfl rfl rfl hb2 rfl <| dw_gqn (s := 17) rfl rfl rfl hb2 rfl <| dw_gqn (s := 17) rfl rfl rfl hb2 rfl <| dw_gqn (s := 17) rfl rfl rfl hb2 rfl <| dw_gqn (s := 17) rfl rfl rfl hb2 rfl <| dw_gqn (s := 17) rfl rfl rfl hb2 rfl ?_
   refine dw_gqn (s := 17) rfl rfl rfl hb2 rfl ?_
   refine dw_nil (fun w8 _ew8 => ?_)
   have hm8 := hm0.ext _ew8
   refine rw_gn (s := 17) rfl rfl hb2 rfl <| rw_q rfl (ev_pick_fk rfl hb2 rfl) <| rw_q rfl (ev_assign (v := (bl false)) rfl) <| rN ?_
   refine CW.abs (fun g => g 0 = (ptr bj 0) ∧ g 1 = (i64 (n : Int)) ∧ g 4 = (bl false) ∧ True) ⟨rfl, rfl, rfl, trivial⟩ ?_
   rintro fr9 ⟨s0, s1, s4, _⟩
   refine cw_ret <| fnPost_ret [(bl false)] ⟨s4, trivial⟩ ?_
   exact ⟨congrArg bl (by unfold fitsB; simp [hb2]), hm8.toExt⟩

set_option maxHeartbeats 2000000 in
theorem c_jnewest (bd : Nat) (vl : Value) (ls : List (List (BitVec 8))) (vp : Value) (ps : List WriteT) (w0 : World)  (hd : blks w0 bd = some (.cells #[vl, vp] 94 (0, 0))) (hrl : RdK (blks w0) (encA u8) 64 vl ls) (hrp : RdK (blks w0) encW 65 vp ps) (hll : ls.length ≤ 65536) (hpl : ps.length ≤ 1048576) : CallsR Try.prog 71 #[(ptr bd 0)] w0 (fun r w1 => r = (u64 (newB ls ps)) ∧ Ext w0 w1) := by
 refine callsR_of_cw (args := [(ptr bd 0)]) Try.func71 rfl Try.ntmps71 Try.results71 rfl ?_
 have hm0 : Mem w0 (restOf w0) [] := Mem.of_world w0
 refine sR <| rw_q rfl (ev_assign (v := (u64 0#64)) rfl) ?_
 refine rN (sR ?_)
 refine rw_q rfl (ev_assign (v := (u64 0#64)) rfl) ?_
 refine rN (cw_seq (sR ?_))
 refine rw_q rfl (ev_move (v := (ptr bd 0)) rfl) <| rw_c rfl (opR_call Try.func49 bd49 nm49 (args1 rfl) (c_dsize bd vl ls vp ps _ (hm0.rest _ _ hd) (RdK.ofRest hrl hm0) (RdK.ofRest hrp hm0))) ?_
 rintro _ w1 ⟨rfl, _ew1⟩
 have hm1 := hm0.ext _ew1
 refine rw_q rfl (ev_move (v := (i64 0)) rfl) ?_
 refine rN (cw_block ?_)
 refine cw_loop (fun g wv => ∃ (k : Nat), (k ≤ ls.length) ∧ g 0 = (ptr bd 0) ∧ g 2 = (u64 0#64) ∧ g 3 = (u64 (mostK ls ps k)) ∧ g 8 = (i64 (ls.length : Int)) ∧ g 9 = (i64 (k : Int)) ∧ Mem wv (restOf w0) []) (fun g wv => ((ls.length : Int) - RowKit.intOf (g 9)).toNat) ?_ ?_
 · exact ⟨0, (Nat.zero_le _), rfl, rfl, (congrArg u64 mostK_0), rfl, rfl, hm1⟩
 · rintro fr3 w4 ⟨k, hk, s0, s2, s3, s8, s9, hm4⟩
   have z3 := s3
   have z9 := s9
   refine sR <| rw_q rfl (ev_i64_lss s9 s8) ?_
   refine rN (cw_seq ?_)
   refine cw_cond rfl (fun hc5 => ?_) (fun hc5 => ?_)
   · -- true
     have hc5p := of_decide_eq_true hc5
     have hrd := readB_len hrl hrp (n := (k : Int))
     refine cw_skip (kThen_normal (cw_seq (cw_block (sR ?_))))
     refine rM rfl s9 <| rw_q rfl (ev_assign (v := (i64 (k : Int))) rfl) ?_
     refine rN (sR ?_)
     refine rM rfl s0 <| rw_q rfl (ev_move (v := (i64 (k : Int))) rfl) <| rw_c rfl (opR_call Try.func55 bd55 nm55 (args2 rfl rfl) (c_dread bd vl ls vp ps (k : Int) _ (hm4.rest _ _ hd) (RdK.ofRest hrl hm4) (RdK.ofRest hrp hm4) sL sL)) ?_
     rintro _ w6 ⟨rfl, _ew6⟩
     have hm6 := hm4.ext _ew6
     refine rw_q rfl (ev_move (v := (Value.tuple #[(agg u8 (readB ls ps (k : Int))), (i64 (errB ls (k : Int)))])) rfl) <| rw_q (v := (agg u8 (readB ls ps (k : Int)))) rfl (ev_extract rfl rfl) <| rw_q (v := (i64 (errB ls (k : Int)))) rfl (ev_extract rfl rfl) <| rw_c rfl (or_alloc_agg hm6 ti83) ?_
     rintro _ w8 ⟨b5, rfl, _ew8, hm8⟩
     refine rw_n (or_store_agg (f := u8) (l := readB ls ps (k : Int)) u8_one ti83 rfl rfl sL hm8.h0 (by rw [size_cl]; first | omega | (simp only [List.length_set, List.length_append, List.length_replicate, List.length_map, List.length_cons, List.length_nil]; omega) | (simp; done) | (simp; omega) | decide) rfl) ?_
     rintro _ w9 uq9
     have hm9 := hm8.upd0 uq9
     refine rw_q rfl (ev_assign (v := (i64 (errB ls (k : Int)))) rfl) <| rN <| cw_draw [(0, false), (1, false), (2, false), (3, false), (4, false)] 5 (by kernel_rfl) <| dM rfl rfl s3 <| dw_q rfl rfl (fun _ _hx => ev_slice_sla (i := 0) (j := 4) uT83 ti5 rfl (optI_none _ _) (optI_some (k := .i64) (i := 4) rfl) oM sL sL) <| dw_x (v := (u64 (getB (((readB ls ps (k : Int)).drop 0).take 4)))) rfl rfl (fun w10 _ew10 => OpR.mono (opR_call Try.func84 bd84 nm84 (args1 rfl) (c_jget (sla b5 0 1 0 4 64) (((readB ls ps (k : Int)).drop 0).take 4) _ (Rd.cast (l' := ((readB ls ps (k : Int)).drop 0).take 4) (Rd.sla (hm9.ext _ew10).h0 sL oM sL sL) rfl) sL)) (by rintro _ w11 ⟨rfl, _ew11⟩; exact ⟨rfl, _ew11⟩)) ?_
     refine dw_q rfl rfl (fun _ _hx => ev_slice_sla (i := 54) (j := 58) uT83 ti5 rfl (optI_some (k := .i64) (i := 54) rfl) (optI_some (k := .i64) (i := 58) rfl) oM sL sL) <| dw_x (v := (u64 (getB (((readB ls ps (k : Int)).drop 54).take 4)))) rfl rfl (fun w13 _ew13 => OpR.mono (opR_call Try.func84 bd84 nm84 (args1 rfl) (c_jget (sla b5 0 1 54 58 64) (((readB ls ps (k : Int)).drop 54).take 4) _ (Rd.cast (l' := ((readB ls ps (k : Int)).drop 54).take 4) (Rd.sla (hm9.ext _ew13).h0 sL oM sL sL) rfl) sL)) (by rintro _ w14 ⟨rfl, _ew14⟩; exact ⟨rfl, _ew14⟩)) ?_
     refine dw_nil (fun w16 _ew16 => ?_)
     have hm16 := hm9.ext _ew16
     refine rw_q (v := (u64 (maxU (maxU (mostK ls ps k) (getB (((readB ls ps (k : Int)).drop 0).take 4))) (getB (((readB ls ps (k : Int)).drop 54).take 4))))) rfl (ev_max3_u64 (a := mostK ls ps k) (b := getB (((readB ls ps (k : Int)).drop 0).take 4)) (c := getB (((readB ls ps (k : Int)).drop 54).take 4)) rfl rfl rfl) <| rA rfl rfl ?_
     refine rw_nil (kBlk_normal ?_)
     refine CW.abs (fun g => g 0 = (ptr bd 0) ∧ g 2 = (u64 0#64) ∧ g 3 = (u64 (maxU (maxU (mostK ls ps k) (getB (((readB ls ps (k : Int)).drop 0).take 4))) (getB (((readB ls ps (k : Int)).drop 54).take 4)))) ∧ g 4 = (i64 (k : Int)) ∧ g 5 = (ptr b5 0) ∧ g 8 = (i64 (ls.length : Int)) ∧ g 9 = (i64 (k : Int)) ∧ g 10 = (bl (decide ((k : Int) < (ls.length : Int)))) ∧ True) ⟨s0, s2, rfl, rfl, rfl, s8, s9, rfl, trivial⟩ ?_
     rintro fr17 ⟨s0, s2, s3, s4, s5, s8, s9, s10, _⟩
     refine cw_region <| rw_q rfl (ev_i64_add (b := 1) s9 rfl oM oM) <| rw_q rfl (ev_move (v := (i64 ((k : Int) + 1))) rfl) <| rN ?_
     have hm18 := Mem.drop ([(b5, .cells (cl u8 (readB ls ps (k : Int))) 83 (0, 0))]) _ hm16
     exact ⟨⟨(k + 1), oM, s0, s2, (Eq.trans s3 (congrArg u64 mostK_S)), s8, rfl, hm18⟩, meas rfl z9 oM oM⟩
   · -- false
     have hc5p := of_decide_eq_false hc5
     refine cw_exit ?_
     refine kThen_exit (kThen_exit (kBlk_hit ?_))
     refine cw_seq (sR ?_)
     refine rM rfl s3 <| rw_q rfl (ev_u64_geq (b := 4294967295#64) rfl rfl) <| rN ?_
     refine cw_cond rfl (fun hc19 => ?_) (fun hc19 => ?_)
     · -- true
       have hc19p := of_decide_eq_true hc19
       refine sR <| rw_q rfl (ev_assign (v := (u64 0#64)) rfl) ?_
       refine rN (cw_ret (kThen_ret ?_))
       refine fnPost_ret [(u64 0#64)] ⟨rfl, trivial⟩ ?_
       have hkl : k = ls.length := by omega
       have hq := hc19
       rw [hkl] at hq
       exact ⟨congrArg u64 (by unfold newB; rw [if_pos (of_decide_eq_true hq)]), hm4.toExt⟩
     · -- false
       have hc19p := of_decide_eq_false hc19
       refine cw_skip (kThen_normal (sR ?_))
       refine rM rfl s3 <| rw_q rfl (ev_u64_add (b := 1#64) rfl rfl) <| rw_q rfl (ev_assign (v := (u64 ((mostK ls ps k) + 1#64))) rfl) ?_
       refine rN (cw_ret ?_)
       refine fnPost_ret [(u64 ((mostK ls ps k) + 1#64))] ⟨rfl, trivial⟩ ?_
       have hkl : k = ls.length := by omega
       have hq := hc19
       rw [hkl] at hq
       exact ⟨congrArg u64 (by unfold newB; rw [if_neg (of_decide_eq_false hq)]; rw [hkl]), hm4.toExt⟩


end Go.Proofs.Ytfbnhoolkajebaa
