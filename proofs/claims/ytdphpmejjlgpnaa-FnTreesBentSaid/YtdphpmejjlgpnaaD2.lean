import Derived.Test.YtdphpmejjlgpnaaD0
import Derived.Test.YtdphpmejjlgpnaaDZ
set_option linter.unusedVariables false
set_option linter.unusedSimpArgs false
set_option linter.unusedSectionVars false
namespace Go.Proofs.Ytdphpmejjlgpnaa.PFnTreesBent
open Go.RowKit Go.Proofs.YtdphpmejjlgpnaaW.PrintWords Go.Proofs.YtdphpmejjlgpnaaW.PrintLast Go.Proofs.YtdphpmejjlgpnaaW.PrintMore Go.Proofs.Ytdphpmejjlgpnaa.Short
attribute [local go_sem] max2_int min2_int max_two min_two max_three min_three max_four min_four
def laws_big.f (l0 : List Int) : Option (Bool) := some (decide ((l0.length : Int) > 1048576))
set_option maxHeartbeats 8000000 in
set_option maxRecDepth 100000 in
theorem laws_big.calls (A0 : Option Addr) (c0 : Nat) (l0 : List Int) (r : Bool) (w : World) (hr0 : Kd.C (Kd.int .u8) w A0 l0.length l0) (hc0 : l0.length ≤ c0) (h : laws_big.f l0 = some r) :
 Calls Try.prog 5 #[.slice A0 l0.length c0] w fun e w' => e = .returned (.bool r) ∧ Drawn0 w w' := by
 have hh := Aside0.mk hr0; have lw := Aside0.mk hc0; clear hr0 hc0; have H : (some (decide ((l0.length : Int) > 1048576))) = some r := h; clear h; obtain rfl := Option.some.inj H
 go_enter Try.func5, Try.ntmps5
 go_wp2; go_ret; exact ⟨z_1, z_2⟩
mutual
def impl_Segs.l0 : Nat → List ByteArray → List (S27) → Int → Int → Option (List ByteArray)
 | 0, _, _, _, _ => none
 | k + 1, x3, fp, kh, gi => if gi < kh then (if 0 ≤ gi then (if gi < (fp.length : Int) then ((impl_Segs.f k ((rd_T27 fp gi).f0) ((rd_T27 fp gi).f1) ((rd_T27 fp gi).f2)).bind fun a0o => (if x3.length + a0o.length < 8796093022208 then (impl_Segs.l0 k (x3 ++ a0o) fp kh (wrap64 (gi + 1))) else (none))) else (none)) else (none)) else (some x3)
def impl_Segs.f : Nat → ByteArray → List ByteArray → List (S27) → Option (List ByteArray)
 | 0, _, _, _ => none
 | k + 1, ae, ac, ab => impl_Segs.l0 k (([ae] : List ByteArray)) ab (ab.length : Int) 0
end
theorem impl_Segs.mono_l : ∀ k, (∀ y0 y1 y2, LeO (impl_Segs.f k y0 y1 y2) (impl_Segs.f (k + 1) y0 y1 y2)) ∧ (∀ y0 y1 y2 y3, LeO (impl_Segs.l0 k y0 y1 y2 y3) (impl_Segs.l0 (k + 1) y0 y1 y2 y3))
 | 0 => ⟨fun _ _ _ r h => by simp [impl_Segs.f] at h, fun _ _ _ _ r h => by simp [impl_Segs.l0] at h⟩
 | k + 1 => by
  obtain ⟨ih0, ih1⟩ := impl_Segs.mono_l k; refine ⟨?_, ?_⟩
  all_goals
   intros
   first | unfold impl_Segs.f | unfold impl_Segs.l0
   repeat' first
   | (with_reducible exact ih0 _ _ _)
   | (with_reducible exact ih1 _ _ _ _)
   | (with_reducible exact LeO.refl _)
   | (with_reducible exact LeO.none _)
   | (with_reducible refine LeO.ite ?_ ?_)
   | (with_reducible refine LeO.bind ?_ (fun _ => ?_))
   | exact ih0 _ _ _
   | exact ih1 _ _ _ _
   | exact LeO.none _
   | refine LeO.ite ?_ ?_
   | refine LeO.bind ?_ (fun _ => ?_)
theorem impl_Segs.mono : ∀ a0 a1 a2 k, LeO (impl_Segs.f k a0 a1 a2) (impl_Segs.f (k + 1) a0 a1 a2) := by
 intro a0 a1 a2 k; obtain ⟨ih0, ih1⟩ := impl_Segs.mono_l k; exact ih0 a0 a1 a2
set_option maxHeartbeats 8000000 in
set_option maxRecDepth 100000 in
theorem impl_Segs.calls (k : Nat) : ∀ (ae : ByteArray) (am : Option Addr) (an : Nat) (ac : List ByteArray) (ar : Option Addr) (ao : Nat) (ab : List (S27)) (r : List ByteArray) (w : World) (hr0_1 : Kd.C Kd.string w am ac.length ac) (hc0_1 : ac.length ≤ an) (hr0_2 : Kd.C k27 w ar ab.length ab) (hc0_2 : ab.length ≤ ao) (h : impl_Segs.f k ae ac ab = some r),
 Calls Try.prog 10 #[.agg #[.string ae, .slice am ac.length an, .slice ar ab.length ao]] w fun e w' => ∃ v0_ : Value, e = .returned (v0_) ∧ Kd.R Kd.string 9 w' w.heap.size (fun _ => True) v0_ r ∧ Below w.heap.size w w' := by
 induction k using Nat.strongRecOn with
 | _ k ih =>
 intro ae am an ac ar ao ab r w hr0_1 hc0_1 hr0_2 hc0_2 h
 cases k with
 | zero => exact absurd h (by simp [impl_Segs.f])
 | succ k =>
 simp only [impl_Segs.f] at h; have hu27 := Try.underlying27; have du := Aside0.mk hr0_1; have eb := Aside0.mk hc0_1; clear hr0_1 hc0_1; have dk := Aside0.mk hr0_2; have ef := Aside0.mk hc0_2; clear hr0_2 hc0_2; have HB := Aside0.mk (Below.refl w.heap.size w); have H : (impl_Segs.l0 k (([ae] : List ByteArray)) ab (ab.length : Int) 0) = some r := h; clear h; obtain ⟨alr, a8t⟩ : ∃ y_ : List ByteArray, y_ = (([ae] : List ByteArray)) := ⟨_, rfl⟩; replace H : (impl_Segs.l0 k alr ab (ab.length : Int) 0) = some r := by first | (rw [a8t]; with_reducible exact H) | (have H2_ := (Option.bind_some _ _).symm.trans H; rw [a8t]; with_reducible exact H2_) | (have H2_ := (Option.bind_some _ _).symm.trans H; with_reducible exact H2_) | with_reducible exact H | (rw [a8t]; exact H) | exact H
 have als := Aside0.mk a8t; clear a8t; have H' := Aside0.mk H; clear H
 go_enter Try.func10, Try.ntmps10
 go_wp2_with (first | ((with_reducible refine gate_dst (N := 1) rfl ?_); refine box_event ?hg (N := 1) ?hd (cs := #[.string ae, .slice am ac.length an, .slice ar ab.length ao]) (t := 27) ?hr ?_; (case hd => rfl); (case hg => rfl); (case hr => first | (go_simp; done) | (go_simp; rfl)); intro xh hg w2 hbox hb; have ja := ak hbox; have b3n := ak ((z_3 HB.out : w.heap.size ≤ xh)); have qc := ak ((z_3 HB.out : w.heap.size ≤ xh)); replace HB := ak (below_step (z_4 HB.out) hb); clear hb hbox hg; have aea := bc ja.out 0; have aeb := bc ja.out 1; have aec := bc ja.out 2; have agj := blk_frozen ja.out 0; have agk := blk_frozen ja.out 1; have agl := blk_frozen ja.out 2) | ((with_reducible refine gate_dst (N := 8) rfl ?_); refine Kd.R_lit Kd.string _ 9 ?hg (N := 8) ?hd (xs := ([ae] : List ByteArray)) (inner := [.string ae]) (ok := fun _ => True) (okp := fun _ => True) ?hr ?hp (fun _ hk => hk) trivial (Below.refl _ _) (Nat.le_refl _) (by simp) ?_; (case hd => rfl); (case hg => rfl); (case hr => first | (go_simp; done) | (go_simp; rfl)); (case hp => exact (Reps.one (show Kd.M Kd.string _ _ _ ae [.string ae] from rfl) (Reps.none _ _))); intro b3o w4 nv hb hg_ hnew_; clear hg_ hnew_; (first | rw [← als.out] at nv | (simp only [Int.reduceToNat] at nv; rw [← als.out] at nv)); have ase := ak (Kd.R_lower nv (below_size (z_5 HB.out qc.out))); replace ja := bb ja hb; replace HB := ak (below_step (z_5 HB.out qc.out) hb); clear hb nv; have a2h := bc ja.out 0; have a2i := bc ja.out 1; have a2j := bc ja.out 2; have a2k := blk_frozen ja.out 0; have a2l := blk_frozen ja.out 1; have a2m := blk_frozen ja.out 2))
 go_loopg [3, 12] k (fun kq v3 v12 w' => ∃ (cb : List ByteArray) (dr : Int), v12 = .int .i64 dr ∧ Aside0 (impl_Segs.l0 kq cb ab (ab.length : Int) dr = some r) ∧ Aside0 (kq ≤ k) ∧ Aside0 (Kd.R Kd.string 9 w' w.heap.size (fun _ => True) v3 cb) ∧ Aside0 (w'.heap[xh]? = some (.cells #[.string ae, (.slice am ac.length an), (.slice ar ab.length ao)] 27 (0, 0))) ∧ Aside0 (Below w.heap.size w w'))
 case atStart => exact ⟨(alr), (0), z_6, H', ⟨Nat.le_refl _⟩, ⟨z_7 ase.out⟩, ⟨z_8 ja.out⟩, ⟨z_5 HB.out qc.out⟩⟩
 case round =>
  clear H'; (try clear aea); (try clear aeb); (try clear aec); (try clear a2h); (try clear a2i); (try clear a2j); (try clear agj); (try clear agk); (try clear agl); (try clear a2k); (try clear a2l); (try clear a2m); obtain ⟨cb, dr, rfl, HA, HK1, bm, ja, HB⟩ := hrel
  cases gk with
  | zero => exact absurd HA.out (by simp [impl_Segs.l0])
  | succ k1 =>
   have H := HA.out; clear HA; simp only [impl_Segs.l0] at H
   by_cases c7 : dr < (ab.length : Int)
   ·rw [if_pos c7] at H; have pk := decide_eq_true c7; clear c7
    by_cases c8 : 0 ≤ dr
    ·rw [if_pos c8] at H; have ky := decide_eq_true c8; clear c8
     by_cases c9 : dr < (ab.length : Int)
     ·rw [if_pos c9] at H; have si := decide_eq_true c9; clear c9; replace H := Option.bind_eq_some_iff.mp H; obtain ⟨a0o, ki, H⟩ := H; have lx := Aside0.mk ki; clear ki
      by_cases dw : cb.length + a0o.length < 8796093022208
      ·rw [if_pos dw] at H; have agm := Aside0.mk dw; clear dw; obtain ⟨alt, a8u⟩ : ∃ y_ : List ByteArray, y_ = (cb ++ a0o) := ⟨_, rfl⟩; replace H : (impl_Segs.l0 k1 alt ab (ab.length : Int) (wrap64 (dr + 1))) = some r := by first | (rw [a8u]; with_reducible exact H) | (have H2_ := (Option.bind_some _ _).symm.trans H; rw [a8u]; with_reducible exact H2_) | (have H2_ := (Option.bind_some _ _).symm.trans H; with_reducible exact H2_) | with_reducible exact H | (rw [a8u]; exact H) | exact H
       have asf := Aside0.mk a8u; clear a8u; have H' := Aside0.mk H; clear H; have agn : 0 ≤ (dr : Int) := of_decide_eq_true z_9; have ago : dr < (ab.length : Int) := of_decide_eq_true z_9; obtain ⟨aed, a5w, a5x, a8v, a8w, asg, agp, agq, agr, alu, alv, alw, alx⟩ := at_T27 dk.out dr agn ago; cases asg; replace agp := (HB.out.cell (World.block_lt_of_cell? w _ agp)).trans agp; replace agq := (HB.out.cell (World.block_lt_of_cell? w _ agq)).trans agq; replace agr := (HB.out.cell (World.block_lt_of_cell? w _ agr)).trans agr; have ash := Aside0.mk alv; have asi := Aside0.mk alu; clear alv alu; have asj := Aside0.mk alx; have ask := Aside0.mk alw; clear alx alw; replace agn := eq_true agn; replace ago := eq_true ago; go_wp2_with (first | ((with_reducible refine gate_dst (N := 5) rfl ?_); refine box_event ?hg (N := 5) ?hd (cs := #[.string (⟨#[]⟩ : ByteArray), .slice none 0 0, .slice none 0 0]) (t := 27) ?hr ?_; (case hd => rfl); (case hg => rfl); (case hr => first | (go_simp; done) | (go_simp; rfl)); intro sj hg xi hbox hb; replace bm := rb bm hb; have qy := ak hbox; have b3p := ak ((z_10 HB.out qc.out : w.heap.size ≤ sj)); have a2n := ak ((z_10 HB.out qc.out : w.heap.size ≤ sj)); replace HB := ak (below_step (z_5 HB.out qc.out) hb); have aee := ak ((by rw [hg]; exact Nat.ne_of_lt (blk_lt (g := xh) (o := .cells #[.string ae, .slice am ac.length an, .slice (some aed) ab.length ao] 27 (0, 0)) (z_8 ja.out)) : xh ≠ sj)); have asl := ak ((by rw [hg]; exact Nat.ne_of_gt (blk_lt (g := xh) (o := .cells #[.string ae, .slice am ac.length an, .slice (some aed) ab.length ao] 27 (0, 0)) (z_8 ja.out)) : sj ≠ xh)); replace ja := bb ja hb; clear hb hbox hg; have asm := asl.out; have asn := aee.out; have qz := bc qy.out 0; have ra := bc qy.out 1; have rc := bc qy.out 2; have re := blk_frozen qy.out 0; have rf := blk_frozen qy.out 1; have rg := blk_frozen qy.out 2) | ((with_reducible refine gate_callee (f := 10) rfl ?_); refine gl_ 18 Try.func10 #[.agg #[.string ((rd_T27 ab dr).f0), .slice a5w ((rd_T27 ab dr).f1).length a5x, .slice a8v ((rd_T27 ab dr).f2).length a8w]] ?_; refine (ih k1 (by have := HK1.out; omega) ((rd_T27 ab dr).f0) _ _ ((rd_T27 ab dr).f1) _ _ ((rd_T27 ab dr).f2) a0o _ (Kd.C_below ash.out (z_11 HB.out qc.out a2n.out)) asi.out (Kd.C_below asj.out (z_11 HB.out qc.out a2n.out)) ask.out lx.out).mono ?_; rintro e vr ⟨b3q, rfl, aq, hb⟩; refine ⟨_, rfl, ?_⟩; have a8x := ak (Kd.R_lower (Kd.R_new' aq (Kd.R_lt (z_12 bm.out qy.out))) (below_size (z_11 HB.out qc.out a2n.out))); replace bm := ak (Kd.R_elder' (z_12 bm.out qy.out) (Kd.R_base aq) hb); replace ja := ak (blk_below (g := xh) (o := .cells #[.string ae, .slice am ac.length an, .slice (some aed) ab.length ao] 27 (0, 0)) (z_13 aee.out ja.out) hb); replace qy := ak (blk_below (g := sj) (o := .cells #[.string ((rd_T27 ab dr).f0), .slice a5w ((rd_T27 ab dr).f1).length a5x, .slice a8v ((rd_T27 ab dr).f2).length a8w] 27 (0, 0)) (by (with_reducible repeat (first | refine blk_drewN ?_ _ | refine blk_drew ?_ | refine blk_alloc ?_ _)); refine blk_put (cs := #[.string ((rd_T27 ab dr).f0), .slice a5w ((rd_T27 ab dr).f1).length a5x, .slice none 0 0]) ?_ 2 _ rfl; (with_reducible repeat (first | refine blk_drewN ?_ _ | refine blk_drew ?_ | refine blk_alloc ?_ _)); refine blk_put (cs := #[.string ((rd_T27 ab dr).f0), .slice none 0 0, .slice none 0 0]) ?_ 1 _ rfl; (with_reducible repeat (first | refine blk_drewN ?_ _ | refine blk_drew ?_ | refine blk_alloc ?_ _)); refine blk_put (cs := #[.string (⟨#[]⟩ : ByteArray), .slice none 0 0, .slice none 0 0]) ?_ 0 _ rfl; (with_reducible repeat (first | refine blk_drewN ?_ _ | refine blk_drew ?_ | refine blk_alloc ?_ _)); exact qy.out) hb); replace HB := ak (below_step (z_11 HB.out qc.out a2n.out) hb); (try clear hb); (try clear hb2); (try clear hk); (try clear hi); (try clear aq); obtain ⟨a5y, a5z, a8y⟩ := Kd.R_slice a8x.out; subst a8y) | ((with_reducible refine gate_builtin (b := .append) (xs := #[.tmp 16, .tmp 18]) rfl ?_); at_builtin; refine Kd.R_append_rows Kd.string (w0 := w) w.heap.size rfl (.tmp 16) (.tmp 18) 24 9 (.string ⟨#[]⟩) 16 rfl Try.underlying24 info9 rfl (by decide) (by omega) u3 cb a0o _ _ _ (fun k_ => some k_ ≠ (.slice a5y a0o.length a5z : Value).ownBlock) (fun _ => False) rfl rfl ?aO ?aR (fun _ _ h => h) (fun _ h => h.elim) ?aF ?aB ?aS ?aL ?_; (case aR => exact z_14 a8x.out); (case aB => exact z_11 HB.out qc.out a2n.out); (case aF => exact (fun k_ hk => Kd.fresh' (Kd.R_lt (z_7 a8x.out)) k_ hk)); (case aO => exact z_15 bm.out); (case aS => exact (below_size (z_11 HB.out qc.out a2n.out))); (case aL => have := agm.out; omega); intro b3r w16 ho hb hg hat; rw [← asf.out] at ho; replace ja := ak (blk_grown (g := xh) (o := .cells #[.string ae, .slice am ac.length an, .slice (some aed) ab.length ao] 27 (0, 0)) (z_8 ja.out) hg (Kd.R_ne bm.out ja.out (by decide))); replace qy := ak (blk_grown (g := sj) (o := .cells #[.string ((rd_T27 ab dr).f0), .slice a5w ((rd_T27 ab dr).f1).length a5x, .slice a8v ((rd_T27 ab dr).f2).length a8w] 27 (0, 0)) (z_8 qy.out) hg (Kd.R_ne bm.out qy.out (by decide))); replace a8x := ak (Kd.R_after (ok := (fun _ => True)) (z_7 a8x.out) hg hat); replace HB := ak hb; have aso := ak ho; clear bm; clear ho hb hg hat))
       go_roundg k1
       case measure => have := HK1.out; omega
       case rel => exact ⟨(alt), (wrap64 (dr + 1)), z_6, H', ⟨by have := HK1.out; omega⟩, ⟨z_16 aso.out⟩, ⟨z_8 ja.out⟩, ⟨z_11 HB.out qc.out a2n.out⟩⟩
      ·rw [if_neg dw] at H; exact absurd H (by simp)
     ·rw [if_neg c9] at H; exact absurd H (by simp)
    ·rw [if_neg c8] at H; exact absurd H (by simp)
   ·rw [if_neg c7] at H; have pk := decide_eq_false c7; clear c7; obtain rfl := Option.some.inj H; go_wp2; go_ret; exact ⟨_, z_17, z_7 bm.out, z_5 HB.out qc.out⟩
def impl_within.f (a0 : Int) (a1 : Int) (a2 : Int) : Option (Bool) := if a0 ≥ a1 then (some (decide (a0 ≤ a2))) else (some false)
set_option maxHeartbeats 8000000 in
set_option maxRecDepth 100000 in
theorem impl_within.calls (a0 : Int) (a1 : Int) (a2 : Int) (r : Bool) (w : World) (h : impl_within.f a0 a1 a2 = some r) :
 Calls Try.prog 29 #[.int .i64 a0, .int .i64 a1, .int .i64 a2] w fun e w' => e = .returned (.bool r) ∧ Drawn0 w w' := by
 have H : (if a0 ≥ a1 then (some (decide (a0 ≤ a2))) else (some false)) = some r := h; clear h
 by_cases c4 : a0 ≥ a1
 ·rw [if_pos c4] at H; have kj : decide (a1 ≤ a0) = true := decide_eq_true c4; clear c4; obtain rfl := Option.some.inj H
  go_enter Try.func29, Try.ntmps29
  go_wp2; go_ret; exact ⟨z_1, z_2⟩
 ·rw [if_neg c4] at H; have kj : decide (a1 ≤ a0) = false := decide_eq_false c4; clear c4; obtain rfl := Option.some.inj H
  go_enter Try.func29, Try.ntmps29
  go_wp2; go_ret; exact ⟨z_1, z_2⟩
def impl_isLetter.f (a0 : Int) : Option (Bool) := (impl_within.f (wrap64 (a0)) 97 122).bind fun a8z => (some a8z)
set_option maxHeartbeats 8000000 in
set_option maxRecDepth 100000 in
theorem impl_isLetter.calls (a0 : Int) (r : Bool) (w : World) (h : impl_isLetter.f a0 = some r) :
 Calls Try.prog 67 #[.int .u8 a0] w fun e w' => e = .returned (.bool r) ∧ Drawn0 w w' := by
 have H : ((impl_within.f (wrap64 (a0)) 97 122).bind fun a8z => (some a8z)) = some r := h; clear h; replace H := Option.bind_eq_some_iff.mp H; obtain ⟨a8z, ec, H⟩ := H; have A2 := Aside0.mk ec; clear ec; obtain rfl := Option.some.inj H
 go_enter Try.func67, Try.ntmps67
 go_wp2_with (first | ((with_reducible refine gate_callee (f := 29) rfl ?_); refine gl_ 5 Try.func29 #[.int .i64 (wrap64 (a0)), .int .i64 97, .int .i64 122] ?_; (with_reducible refine (impl_within.calls (wrap64 (a0)) 97 122 a8z _ A2.out).mono ?_); rintro e w' ⟨rfl, ⟨nd, rfl⟩⟩; refine ⟨_, rfl, ?_⟩)); go_ret; exact ⟨z_1, z_2⟩
def impl_isPart.f (a0 : Int) : Option (Bool) := (impl_isLetter.f a0).bind fun a9a => (if a9a = true then (some true) else ((impl_within.f (wrap64 (a0)) 48 57).bind fun a9b => (some a9b)))
set_option maxHeartbeats 8000000 in
set_option maxRecDepth 100000 in
theorem impl_isPart.calls (a0 : Int) (r : Bool) (w : World) (h : impl_isPart.f a0 = some r) :
 Calls Try.prog 84 #[.int .u8 a0] w fun e w' => e = .returned (.bool r) ∧ Drawn0 w w' := by
 have H : ((impl_isLetter.f a0).bind fun a9a => (if a9a = true then (some true) else ((impl_within.f (wrap64 (a0)) 48 57).bind fun a9b => (some a9b)))) = some r := h; clear h; replace H := Option.bind_eq_some_iff.mp H; obtain ⟨a9a, ec, H⟩ := H; have A2 := Aside0.mk ec; clear ec
 by_cases c3 : a9a = true
 ·subst c3; rw [if_pos rfl] at H; obtain rfl := Option.some.inj H
  go_enter Try.func84, Try.ntmps84
  go_wp2_with (first | ((with_reducible refine gate_callee (f := 67) rfl ?_); refine gl_ 4 Try.func67 #[.int .u8 a0] ?_; (with_reducible refine (impl_isLetter.calls a0 true _ A2.out).mono ?_); rintro e w' ⟨rfl, ⟨nd, rfl⟩⟩; refine ⟨_, rfl, ?_⟩)); go_ret; exact ⟨z_1, z_2⟩
 ·replace c3 := Bool.eq_false_iff.mpr c3; subst c3; rw [if_neg (show ¬ (false = true) by decide)] at H; replace H := Option.bind_eq_some_iff.mp H; obtain ⟨a9b, fe, H⟩ := H; have A4 := Aside0.mk fe; clear fe; obtain rfl := Option.some.inj H
  go_enter Try.func84, Try.ntmps84
  go_wp2_with (first | ((with_reducible refine gate_callee (f := 67) rfl ?_); refine gl_ 4 Try.func67 #[.int .u8 a0] ?_; (with_reducible refine (impl_isLetter.calls a0 false _ A2.out).mono ?_); rintro e w' ⟨rfl, ⟨nd, rfl⟩⟩; refine ⟨_, rfl, ?_⟩) | (go_at_call 29; (with_reducible refine (impl_within.calls (wrap64 (a0)) 48 57 a9b _ A4.out).mono ?_); rintro e w' ⟨rfl, ⟨nd, rfl⟩⟩)); go_ret; exact ⟨z_1, z_2⟩
def impl_runFrom.l0 : Nat → ByteArray → Int → Int → Option (ByteArray)
 | 0, _, _, _ => none
 | k + 1, x0, x1, x5 => if x5 < (x0.size : Int) then (if 0 ≤ x5 then ((impl_isPart.f (bt x0 x5)).bind fun ags => (if ags = true then (impl_runFrom.l0 k x0 x1 (wrap64 (x5 + 1))) else (if 0 ≤ x1 then (if x1 ≤ x5 then (if x5 ≤ (x0.size : Int) then (some (x0.extract (x1 : Int).toNat (x5 : Int).toNat)) else (none)) else (none)) else (none)))) else (none)) else (if 0 ≤ x1 then (if x1 ≤ x5 then (if x5 ≤ (x0.size : Int) then (some (x0.extract (x1 : Int).toNat (x5 : Int).toNat)) else (none)) else (none)) else (none))
def impl_runFrom.f (k : Nat) (a0 : ByteArray) (a1 : Int) : Option (ByteArray) := impl_runFrom.l0 k a0 a1 a1
theorem impl_runFrom.mono_l : ∀ k, (∀ y0 y1 y2, LeO (impl_runFrom.l0 k y0 y1 y2) (impl_runFrom.l0 (k + 1) y0 y1 y2))
 | 0 => fun _ _ _ r h => by simp [impl_runFrom.l0] at h
 | k + 1 => by
  have ih0 := impl_runFrom.mono_l k
  ·intro y0 y1 y2; unfold impl_runFrom.l0
   repeat' first
   | (with_reducible exact ih0 _ _ _)
   | (with_reducible exact LeO.refl _)
   | (with_reducible exact LeO.none _)
   | (with_reducible refine LeO.ite ?_ ?_)
   | (with_reducible refine LeO.bind ?_ (fun _ => ?_))
   | exact ih0 _ _ _
   | exact LeO.none _
   | refine LeO.ite ?_ ?_
   | refine LeO.bind ?_ (fun _ => ?_)
theorem impl_runFrom.mono : ∀ a0 a1 k, LeO (impl_runFrom.f k a0 a1) (impl_runFrom.f (k + 1) a0 a1) := by
 intro a0 a1 k; have ih0 := impl_runFrom.mono_l k; unfold impl_runFrom.f
 repeat' first
  | (with_reducible exact ih0 _ _ _)
  | (with_reducible exact LeO.refl _)
  | (with_reducible exact LeO.none _)
  | (with_reducible refine LeO.ite ?_ ?_)
  | (with_reducible refine LeO.bind ?_ (fun _ => ?_))
  | exact ih0 _ _ _
  | exact LeO.none _
  | refine LeO.ite ?_ ?_
  | refine LeO.bind ?_ (fun _ => ?_)
set_option maxHeartbeats 8000000 in
set_option maxRecDepth 100000 in
theorem impl_runFrom.calls (k : Nat) (a0 : ByteArray) (a1 : Int) (r : ByteArray) (w : World) (h : impl_runFrom.f k a0 a1 = some r) :
 Calls Try.prog 68 #[.string a0, .int .i64 a1] w fun e w' => e = .returned (.string r) ∧ Drawn0 w w' := by
 have H : (impl_runFrom.l0 k a0 a1 a1) = some r := h; clear h; have H' := Aside0.mk H; clear H
 go_enter Try.func68, Try.ntmps68
 go_wp2
 go_loopg [5] k (fun kq v5 w' => ∃ (bn : Int), v5 = .int .i64 bn ∧ Aside0 (impl_runFrom.l0 kq a0 a1 bn = some r) ∧ Aside0 (kq ≤ k) ∧ Drawn0 w w')
 case atStart => exact ⟨(a1), z_6, H', ⟨Nat.le_refl _⟩, z_2⟩
 case round =>
  clear H'; obtain ⟨bn, rfl, HA, HK1, ⟨m1, rfl⟩⟩ := hrel
  cases gk with
  | zero => exact absurd HA.out (by simp [impl_runFrom.l0])
  | succ k1 =>
   have H := HA.out; clear HA; simp only [impl_runFrom.l0] at H
   by_cases c3 : bn < (a0.size : Int)
   ·rw [if_pos c3] at H; have mw := decide_eq_true c3; clear c3
    by_cases c4 : 0 ≤ bn
    ·rw [if_pos c4] at H; have kj := decide_eq_true c4; clear c4; replace H := Option.bind_eq_some_iff.mp H; obtain ⟨ags, ii, H⟩ := H; have A6 := Aside0.mk ii; clear ii
     by_cases c7 : ags = true
     ·subst c7; rw [if_pos rfl] at H; have H' := Aside0.mk H; clear H; have p5 : 0 ≤ (bn : Int) := of_decide_eq_true z_9; have q5 : bn < (a0.size : Int) := of_decide_eq_true z_9; have hx5 := bt_at a0 bn; replace p5 := eq_true p5; replace q5 := eq_true q5; go_wp2_with (first | (go_at_call 84; (with_reducible refine (impl_isPart.calls (bt a0 bn) true _ A6.out).mono ?_); rintro e w' ⟨rfl, ⟨nd, rfl⟩⟩)); go_roundg k1
      case measure => have := HK1.out; omega
      case rel => exact ⟨(wrap64 (bn + 1)), z_6, H', ⟨by have := HK1.out; omega⟩, z_2⟩
     ·replace c7 := Bool.eq_false_iff.mpr c7; subst c7; rw [if_neg (show ¬ (false = true) by decide)] at H
      by_cases c8 : 0 ≤ a1
      ·rw [if_pos c8] at H; have ky := eq_true c8; have a9c := decide_eq_true c8; clear c8
       by_cases c9 : a1 ≤ bn
       ·rw [if_pos c9] at H; have si := eq_true c9; have b3s := decide_eq_true c9; clear c9
        by_cases ew : bn ≤ (a0.size : Int)
        ·rw [if_pos ew] at H; have agt := eq_true ew; have b3t := decide_eq_true ew; clear ew; obtain rfl := Option.some.inj H; have p5 : 0 ≤ (bn : Int) := of_decide_eq_true z_9; have q5 : bn < (a0.size : Int) := of_decide_eq_true z_9; have hx5 := bt_at a0 bn; replace p5 := eq_true p5; replace q5 := eq_true q5; go_wp2_with (first | (go_at_call 84; (with_reducible refine (impl_isPart.calls (bt a0 bn) false _ A6.out).mono ?_); rintro e w' ⟨rfl, ⟨nd, rfl⟩⟩)); go_ret; exact ⟨z_1, z_2⟩
        ·rw [if_neg ew] at H; exact absurd H (by simp)
       ·rw [if_neg c9] at H; exact absurd H (by simp)
      ·rw [if_neg c8] at H; exact absurd H (by simp)
    ·rw [if_neg c4] at H; exact absurd H (by simp)
   ·rw [if_neg c3] at H; have mw := decide_eq_false c3; clear c3
    by_cases dw : 0 ≤ a1
    ·rw [if_pos dw] at H; have ly := eq_true dw; have tn := decide_eq_true dw; clear dw
     by_cases jy : a1 ≤ bn
     ·rw [if_pos jy] at H; have a9d := eq_true jy; have b3u := decide_eq_true jy; clear jy
      by_cases ga : bn ≤ (a0.size : Int)
      ·rw [if_pos ga] at H; have a2o := eq_true ga; have asp := decide_eq_true ga; clear ga; obtain rfl := Option.some.inj H; go_wp2; go_ret; exact ⟨z_1, z_2⟩
      ·rw [if_neg ga] at H; exact absurd H (by simp)
     ·rw [if_neg jy] at H; exact absurd H (by simp)
    ·rw [if_neg dw] at H; exact absurd H (by simp)
def impl_hasForm.f (k : Nat) (a0 : ByteArray) : Option (Bool) := (impl_within.f (a0.size : Int) 1 6).bind fun a9e => (if a9e = true then (if 0 < (a0.size : Int) then ((impl_isLetter.f (bt a0 0)).bind fun a9f => (if a9f = true then ((impl_runFrom.f k a0 0).bind fun a9g => (some (a9g.toList == a0.toList))) else (some false))) else (none)) else (some false))
theorem impl_hasForm.mono : ∀ a0 k, LeO (impl_hasForm.f k a0) (impl_hasForm.f (k + 1) a0) := by
 intro a0 k; unfold impl_hasForm.f
 repeat' first
  | (with_reducible exact impl_runFrom.mono _ _ _)
  | (with_reducible exact LeO.refl _)
  | (with_reducible exact LeO.none _)
  | (with_reducible refine LeO.ite ?_ ?_)
  | (with_reducible refine LeO.bind ?_ (fun _ => ?_))
  | exact impl_runFrom.mono _ _ _
  | exact LeO.none _
  | refine LeO.ite ?_ ?_
  | refine LeO.bind ?_ (fun _ => ?_)
set_option maxHeartbeats 8000000 in
set_option maxRecDepth 100000 in
theorem impl_hasForm.calls (k : Nat) (a0 : ByteArray) (r : Bool) (w : World) (h : impl_hasForm.f k a0 = some r) :
 Calls Try.prog 61 #[.string a0] w fun e w' => e = .returned (.bool r) ∧ Drawn0 w w' := by
 have H : ((impl_within.f (a0.size : Int) 1 6).bind fun a9e => (if a9e = true then (if 0 < (a0.size : Int) then ((impl_isLetter.f (bt a0 0)).bind fun a9f => (if a9f = true then ((impl_runFrom.f k a0 0).bind fun a9g => (some (a9g.toList == a0.toList))) else (some false))) else (none)) else (some false))) = some r := h; clear h; replace H := Option.bind_eq_some_iff.mp H; obtain ⟨a9e, ec, H⟩ := H; have A2 := Aside0.mk ec; clear ec
 by_cases c3 : a9e = true
 ·subst c3; rw [if_pos rfl] at H
  by_cases c4 : 0 < (a0.size : Int)
  ·rw [if_pos c4] at H; have kj := decide_eq_true c4; have a6a : decide (0 < a0.size) = true := decide_eq_true (by omega); clear c4; replace H := Option.bind_eq_some_iff.mp H; obtain ⟨a9f, ii, H⟩ := H; have A6 := Aside0.mk ii; clear ii
   by_cases c7 : a9f = true
   ·subst c7; rw [if_pos rfl] at H; replace H := Option.bind_eq_some_iff.mp H; obtain ⟨a9g, qe, H⟩ := H; have A8 := Aside0.mk qe; clear qe; obtain rfl := Option.some.inj H
    go_enter Try.func61, Try.ntmps61
    go_wp2_with (first | ((with_reducible refine gate_callee (f := 29) rfl ?_); refine gl_ 5 Try.func29 #[.int .i64 (a0.size : Int), .int .i64 1, .int .i64 6] ?_; (with_reducible refine (impl_within.calls (a0.size : Int) 1 6 true _ A2.out).mono ?_); rintro e w' ⟨rfl, ⟨nd, rfl⟩⟩; refine ⟨_, rfl, ?_⟩; have p5 : 0 ≤ (0 : Int) := (by omega); have q5 : 0 < a0.size := (by have : (0 : Int) < (a0.size : Int) := of_decide_eq_true z_9; omega); have hx5 : ∀ h : 0 < a0.size, ((a0[0]'h).toNat : Int) = bt a0 0 := bt_at a0 0; clear p5; have qi5 : (0 < (a0.size : Int)) = True := eq_true (of_decide_eq_true z_9); replace q5 := eq_true q5) | (go_at_call 67; (with_reducible refine (impl_isLetter.calls (bt a0 0) true _ A6.out).mono ?_); rintro e w' ⟨rfl, ⟨nd, rfl⟩⟩) | (go_at_call 68; (with_reducible refine (impl_runFrom.calls k a0 0 a9g _ A8.out).mono ?_); rintro e w' ⟨rfl, ⟨nd, rfl⟩⟩)); go_ret; exact ⟨z_1, z_2⟩
   ·replace c7 := Bool.eq_false_iff.mpr c7; subst c7; rw [if_neg (show ¬ (false = true) by decide)] at H; obtain rfl := Option.some.inj H
    go_enter Try.func61, Try.ntmps61
    go_wp2_with (first | ((with_reducible refine gate_callee (f := 29) rfl ?_); refine gl_ 5 Try.func29 #[.int .i64 (a0.size : Int), .int .i64 1, .int .i64 6] ?_; (with_reducible refine (impl_within.calls (a0.size : Int) 1 6 true _ A2.out).mono ?_); rintro e w' ⟨rfl, ⟨nd, rfl⟩⟩; refine ⟨_, rfl, ?_⟩; have p5 : 0 ≤ (0 : Int) := (by omega); have q5 : 0 < a0.size := (by have : (0 : Int) < (a0.size : Int) := of_decide_eq_true z_9; omega); have hx5 : ∀ h : 0 < a0.size, ((a0[0]'h).toNat : Int) = bt a0 0 := bt_at a0 0; clear p5; have qi5 : (0 < (a0.size : Int)) = True := eq_true (of_decide_eq_true z_9); replace q5 := eq_true q5) | (go_at_call 67; (with_reducible refine (impl_isLetter.calls (bt a0 0) false _ A6.out).mono ?_); rintro e w' ⟨rfl, ⟨nd, rfl⟩⟩)); go_ret; exact ⟨z_1, z_2⟩
  ·rw [if_neg c4] at H; exact absurd H (by simp)
 ·replace c3 := Bool.eq_false_iff.mpr c3; subst c3; rw [if_neg (show ¬ (false = true) by decide)] at H; obtain rfl := Option.some.inj H
  go_enter Try.func61, Try.ntmps61
  go_wp2_with (first | ((with_reducible refine gate_callee (f := 29) rfl ?_); refine gl_ 5 Try.func29 #[.int .i64 (a0.size : Int), .int .i64 1, .int .i64 6] ?_; (with_reducible refine (impl_within.calls (a0.size : Int) 1 6 false _ A2.out).mono ?_); rintro e w' ⟨rfl, ⟨nd, rfl⟩⟩; refine ⟨_, rfl, ?_⟩)); go_ret; exact ⟨z_1, z_2⟩
def impl_placeIn.l0 : Nat → ByteArray → List ByteArray → Int → Int → Option (Int)
 | 0, _, _, _, _ => none
 | k + 1, x1, x7, x8, x9 => if x9 < x8 then (if 0 ≤ x9 then (if x9 < (x7.length : Int) then (if (rdOf ByteArray.empty x7 x9).toList = x1.toList then (some x9) else (impl_placeIn.l0 k x1 x7 x8 (wrap64 (x9 + 1)))) else (none)) else (none)) else (some (-1))
def impl_placeIn.f (k : Nat) (l0 : List ByteArray) (a1 : ByteArray) : Option (Int) := impl_placeIn.l0 k a1 l0 (l0.length : Int) 0
theorem impl_placeIn.mono_l : ∀ k, (∀ y0 y1 y2 y3, LeO (impl_placeIn.l0 k y0 y1 y2 y3) (impl_placeIn.l0 (k + 1) y0 y1 y2 y3))
 | 0 => fun _ _ _ _ r h => by simp [impl_placeIn.l0] at h
 | k + 1 => by
  have ih0 := impl_placeIn.mono_l k
  ·intro y0 y1 y2 y3; unfold impl_placeIn.l0
   repeat' first
   | (with_reducible exact ih0 _ _ _ _)
   | (with_reducible exact LeO.refl _)
   | (with_reducible exact LeO.none _)
   | (with_reducible refine LeO.ite ?_ ?_)
   | (with_reducible refine LeO.bind ?_ (fun _ => ?_))
   | exact ih0 _ _ _ _
   | exact LeO.none _
   | refine LeO.ite ?_ ?_
   | refine LeO.bind ?_ (fun _ => ?_)
theorem impl_placeIn.mono : ∀ a0 a1 k, LeO (impl_placeIn.f k a0 a1) (impl_placeIn.f (k + 1) a0 a1) := by
 intro a0 a1 k; have ih0 := impl_placeIn.mono_l k; unfold impl_placeIn.f
 repeat' first
  | (with_reducible exact ih0 _ _ _ _)
  | (with_reducible exact LeO.refl _)
  | (with_reducible exact LeO.none _)
  | (with_reducible refine LeO.ite ?_ ?_)
  | (with_reducible refine LeO.bind ?_ (fun _ => ?_))
  | exact ih0 _ _ _ _
  | exact LeO.none _
  | refine LeO.ite ?_ ?_
  | refine LeO.bind ?_ (fun _ => ?_)
set_option maxHeartbeats 8000000 in
set_option maxRecDepth 100000 in
theorem impl_placeIn.calls (k : Nat) (A0 : Option Addr) (c0 : Nat) (l0 : List ByteArray) (a1 : ByteArray) (r : Int) (w : World) (hr0 : Kd.C Kd.string w A0 l0.length l0) (hc0 : l0.length ≤ c0) (h : impl_placeIn.f k l0 a1 = some r) :
 Calls Try.prog 32 #[.slice A0 l0.length c0, .string a1] w fun e w' => e = .returned (.int .i64 r) ∧ Drawn0 w w' := by
 have hh := Aside0.mk hr0; have lw := Aside0.mk hc0; clear hr0 hc0; have H : (impl_placeIn.l0 k a1 l0 (l0.length : Int) 0) = some r := h; clear h; have H' := Aside0.mk H; clear H
 go_enter Try.func32, Try.ntmps32
 go_wp2
 go_loopg [9] k (fun kq v9 w' => ∃ (my : Int), v9 = .int .i64 my ∧ Aside0 (impl_placeIn.l0 kq a1 l0 (l0.length : Int) my = some r) ∧ Aside0 (kq ≤ k) ∧ Drawn0 w w')
 case atStart => exact ⟨(0), z_6, H', ⟨Nat.le_refl _⟩, z_2⟩
 case round =>
  clear H'; obtain ⟨my, rfl, HA, HK1, ⟨m1, rfl⟩⟩ := hrel
  cases gk with
  | zero => exact absurd HA.out (by simp [impl_placeIn.l0])
  | succ k1 =>
   have H := HA.out; clear HA; simp only [impl_placeIn.l0] at H
   by_cases c3 : my < (l0.length : Int)
   ·rw [if_pos c3] at H; have mw := decide_eq_true c3; clear c3
    by_cases c4 : 0 ≤ my
    ·rw [if_pos c4] at H; have kj := decide_eq_true c4; clear c4
     by_cases c5 : my < (l0.length : Int)
     ·rw [if_pos c5] at H; have kz := decide_eq_true c5; clear c5
      by_cases c6 : (rdOf ByteArray.empty l0 my).toList = a1.toList
      ·rw [if_pos c6] at H; have nw : ((rdOf ByteArray.empty l0 my).toList == a1.toList) = true := beq_iff_eq.mpr c6; have aly : ((rdOf ByteArray.empty l0 my).toList != a1.toList) = false := bne_eq_false_iff_eq.mpr c6; clear c6; obtain rfl := Option.some.inj H; have a2p : 0 ≤ (my : Int) := of_decide_eq_true z_9; have a2q : my < (l0.length : Int) := of_decide_eq_true z_9; obtain ⟨asq, agu, asr⟩ := Kd.at_string hh.out my a2p a2q; cases agu; replace a2p := eq_true a2p; replace a2q := eq_true a2q; go_wp2; go_ret; exact ⟨z_1, z_2⟩
      ·rw [if_neg c6] at H; have nw : ((rdOf ByteArray.empty l0 my).toList == a1.toList) = false := beq_eq_false_iff_ne.mpr c6; have aly : ((rdOf ByteArray.empty l0 my).toList != a1.toList) = true := bne_iff_ne.mpr c6; have H' := Aside0.mk H; clear H; have a2p : 0 ≤ (my : Int) := of_decide_eq_true z_9; have a2q : my < (l0.length : Int) := of_decide_eq_true z_9; obtain ⟨asq, agu, asr⟩ := Kd.at_string hh.out my a2p a2q; cases agu; replace a2p := eq_true a2p; replace a2q := eq_true a2q; go_wp2; go_roundg k1
       case measure => have := HK1.out; omega
       case rel => exact ⟨(wrap64 (my + 1)), z_6, H', ⟨by have := HK1.out; omega⟩, z_2⟩
     ·rw [if_neg c5] at H; exact absurd H (by simp)
    ·rw [if_neg c4] at H; exact absurd H (by simp)
   ·rw [if_neg c3] at H; have mw := decide_eq_false c3; clear c3; obtain rfl := Option.some.inj H; go_wp2; go_ret; exact ⟨z_1, z_2⟩
def impl_opWords.f  : Option (List ByteArray) := some (([(⟨#[109, 111, 118]⟩ : ByteArray), (⟨#[99, 109, 112]⟩ : ByteArray), (⟨#[98, 105, 99]⟩ : ByteArray), (⟨#[98, 105, 115]⟩ : ByteArray), (⟨#[97, 100, 100]⟩ : ByteArray), (⟨#[115, 117, 98]⟩ : ByteArray), (⟨#[99, 108, 114]⟩ : ByteArray), (⟨#[105, 110, 99]⟩ : ByteArray), (⟨#[100, 101, 99]⟩ : ByteArray), (⟨#[110, 101, 103]⟩ : ByteArray), (⟨#[116, 115, 116]⟩ : ByteArray), (⟨#[97, 115, 114]⟩ : ByteArray), (⟨#[97, 115, 108]⟩ : ByteArray), (⟨#[106, 109, 112]⟩ : ByteArray), (⟨#[106, 115, 114]⟩ : ByteArray), (⟨#[114, 116, 115]⟩ : ByteArray), (⟨#[98, 114]⟩ : ByteArray), (⟨#[98, 110, 101]⟩ : ByteArray), (⟨#[98, 101, 113]⟩ : ByteArray), (⟨#[98, 103, 101]⟩ : ByteArray), (⟨#[98, 108, 116]⟩ : ByteArray), (⟨#[104, 97, 108, 116]⟩ : ByteArray), (⟨#[101, 109, 116]⟩ : ByteArray)] : List ByteArray))
set_option maxHeartbeats 8000000 in
set_option maxRecDepth 100000 in
theorem impl_opWords.calls  (r : List ByteArray) (w : World) (h : impl_opWords.f  = some r) :
 Calls Try.prog 69 #[] w fun e w' => ∃ v0_ : Value, e = .returned (v0_) ∧ Kd.R Kd.string 9 w' w.heap.size (fun _ => True) v0_ r ∧ Below w.heap.size w w' := by
 have HB := Aside0.mk (Below.refl w.heap.size w); have H : (some (([(⟨#[109, 111, 118]⟩ : ByteArray), (⟨#[99, 109, 112]⟩ : ByteArray), (⟨#[98, 105, 99]⟩ : ByteArray), (⟨#[98, 105, 115]⟩ : ByteArray), (⟨#[97, 100, 100]⟩ : ByteArray), (⟨#[115, 117, 98]⟩ : ByteArray), (⟨#[99, 108, 114]⟩ : ByteArray), (⟨#[105, 110, 99]⟩ : ByteArray), (⟨#[100, 101, 99]⟩ : ByteArray), (⟨#[110, 101, 103]⟩ : ByteArray), (⟨#[116, 115, 116]⟩ : ByteArray), (⟨#[97, 115, 114]⟩ : ByteArray), (⟨#[97, 115, 108]⟩ : ByteArray), (⟨#[106, 109, 112]⟩ : ByteArray), (⟨#[106, 115, 114]⟩ : ByteArray), (⟨#[114, 116, 115]⟩ : ByteArray), (⟨#[98, 114]⟩ : ByteArray), (⟨#[98, 110, 101]⟩ : ByteArray), (⟨#[98, 101, 113]⟩ : ByteArray), (⟨#[98, 103, 101]⟩ : ByteArray), (⟨#[98, 108, 116]⟩ : ByteArray), (⟨#[104, 97, 108, 116]⟩ : ByteArray), (⟨#[101, 109, 116]⟩ : ByteArray)] : List ByteArray))) = some r := h; clear h; obtain ⟨ass, a9h⟩ : ∃ y_ : List ByteArray, y_ = (([(⟨#[109, 111, 118]⟩ : ByteArray), (⟨#[99, 109, 112]⟩ : ByteArray), (⟨#[98, 105, 99]⟩ : ByteArray), (⟨#[98, 105, 115]⟩ : ByteArray), (⟨#[97, 100, 100]⟩ : ByteArray), (⟨#[115, 117, 98]⟩ : ByteArray), (⟨#[99, 108, 114]⟩ : ByteArray), (⟨#[105, 110, 99]⟩ : ByteArray), (⟨#[100, 101, 99]⟩ : ByteArray), (⟨#[110, 101, 103]⟩ : ByteArray), (⟨#[116, 115, 116]⟩ : ByteArray), (⟨#[97, 115, 114]⟩ : ByteArray), (⟨#[97, 115, 108]⟩ : ByteArray), (⟨#[106, 109, 112]⟩ : ByteArray), (⟨#[106, 115, 114]⟩ : ByteArray), (⟨#[114, 116, 115]⟩ : ByteArray), (⟨#[98, 114]⟩ : ByteArray), (⟨#[98, 110, 101]⟩ : ByteArray), (⟨#[98, 101, 113]⟩ : ByteArray), (⟨#[98, 103, 101]⟩ : ByteArray), (⟨#[98, 108, 116]⟩ : ByteArray), (⟨#[104, 97, 108, 116]⟩ : ByteArray), (⟨#[101, 109, 116]⟩ : ByteArray)] : List ByteArray)) := ⟨_, rfl⟩
 replace H : (some ass) = some r := by first | (rw [a9h]; with_reducible exact H) | (have H2_ := (Option.bind_some _ _).symm.trans H; rw [a9h]; with_reducible exact H2_) | (have H2_ := (Option.bind_some _ _).symm.trans H; with_reducible exact H2_) | with_reducible exact H | (rw [a9h]; exact H) | exact H
 have alz := Aside0.mk a9h; clear a9h; obtain rfl := Option.some.inj H
 go_enter Try.func69, Try.ntmps69
 go_wp2_with (first | ((with_reducible refine gate_dst (N := 1) rfl ?_); refine Kd.R_lit Kd.string _ 9 ?hg (N := 1) ?hd (xs := ([(⟨#[109, 111, 118]⟩ : ByteArray), (⟨#[99, 109, 112]⟩ : ByteArray), (⟨#[98, 105, 99]⟩ : ByteArray), (⟨#[98, 105, 115]⟩ : ByteArray), (⟨#[97, 100, 100]⟩ : ByteArray), (⟨#[115, 117, 98]⟩ : ByteArray), (⟨#[99, 108, 114]⟩ : ByteArray), (⟨#[105, 110, 99]⟩ : ByteArray), (⟨#[100, 101, 99]⟩ : ByteArray), (⟨#[110, 101, 103]⟩ : ByteArray), (⟨#[116, 115, 116]⟩ : ByteArray), (⟨#[97, 115, 114]⟩ : ByteArray), (⟨#[97, 115, 108]⟩ : ByteArray), (⟨#[106, 109, 112]⟩ : ByteArray), (⟨#[106, 115, 114]⟩ : ByteArray), (⟨#[114, 116, 115]⟩ : ByteArray), (⟨#[98, 114]⟩ : ByteArray), (⟨#[98, 110, 101]⟩ : ByteArray), (⟨#[98, 101, 113]⟩ : ByteArray), (⟨#[98, 103, 101]⟩ : ByteArray), (⟨#[98, 108, 116]⟩ : ByteArray), (⟨#[104, 97, 108, 116]⟩ : ByteArray), (⟨#[101, 109, 116]⟩ : ByteArray)] : List ByteArray)) (inner := [.string (⟨#[109, 111, 118]⟩ : ByteArray), .string (⟨#[99, 109, 112]⟩ : ByteArray), .string (⟨#[98, 105, 99]⟩ : ByteArray), .string (⟨#[98, 105, 115]⟩ : ByteArray), .string (⟨#[97, 100, 100]⟩ : ByteArray), .string (⟨#[115, 117, 98]⟩ : ByteArray), .string (⟨#[99, 108, 114]⟩ : ByteArray), .string (⟨#[105, 110, 99]⟩ : ByteArray), .string (⟨#[100, 101, 99]⟩ : ByteArray), .string (⟨#[110, 101, 103]⟩ : ByteArray), .string (⟨#[116, 115, 116]⟩ : ByteArray), .string (⟨#[97, 115, 114]⟩ : ByteArray), .string (⟨#[97, 115, 108]⟩ : ByteArray), .string (⟨#[106, 109, 112]⟩ : ByteArray), .string (⟨#[106, 115, 114]⟩ : ByteArray), .string (⟨#[114, 116, 115]⟩ : ByteArray), .string (⟨#[98, 114]⟩ : ByteArray), .string (⟨#[98, 110, 101]⟩ : ByteArray), .string (⟨#[98, 101, 113]⟩ : ByteArray), .string (⟨#[98, 103, 101]⟩ : ByteArray), .string (⟨#[98, 108, 116]⟩ : ByteArray), .string (⟨#[104, 97, 108, 116]⟩ : ByteArray), .string (⟨#[101, 109, 116]⟩ : ByteArray)]) (ok := fun _ => True) (okp := fun _ => True) ?hr ?hp (fun _ hk => hk) trivial (Below.refl _ _) (Nat.le_refl _) (by simp) ?_; (case hd => rfl); (case hg => rfl); (case hr => first | (go_simp; done) | (go_simp; rfl)); (case hp => exact (Reps.one (show Kd.M Kd.string _ _ _ (⟨#[109, 111, 118]⟩ : ByteArray) [.string (⟨#[109, 111, 118]⟩ : ByteArray)] from rfl) (Reps.one (show Kd.M Kd.string _ _ _ (⟨#[99, 109, 112]⟩ : ByteArray) [.string (⟨#[99, 109, 112]⟩ : ByteArray)] from rfl) (Reps.one (show Kd.M Kd.string _ _ _ (⟨#[98, 105, 99]⟩ : ByteArray) [.string (⟨#[98, 105, 99]⟩ : ByteArray)] from rfl) (Reps.one (show Kd.M Kd.string _ _ _ (⟨#[98, 105, 115]⟩ : ByteArray) [.string (⟨#[98, 105, 115]⟩ : ByteArray)] from rfl) (Reps.one (show Kd.M Kd.string _ _ _ (⟨#[97, 100, 100]⟩ : ByteArray) [.string (⟨#[97, 100, 100]⟩ : ByteArray)] from rfl) (Reps.one (show Kd.M Kd.string _ _ _ (⟨#[115, 117, 98]⟩ : ByteArray) [.string (⟨#[115, 117, 98]⟩ : ByteArray)] from rfl) (Reps.one (show Kd.M Kd.string _ _ _ (⟨#[99, 108, 114]⟩ : ByteArray) [.string (⟨#[99, 108, 114]⟩ : ByteArray)] from rfl) (Reps.one (show Kd.M Kd.string _ _ _ (⟨#[105, 110, 99]⟩ : ByteArray) [.string (⟨#[105, 110, 99]⟩ : ByteArray)] from rfl) (Reps.one (show Kd.M Kd.string _ _ _ (⟨#[100, 101, 99]⟩ : ByteArray) [.string (⟨#[100, 101, 99]⟩ : ByteArray)] from rfl) (Reps.one (show Kd.M Kd.string _ _ _ (⟨#[110, 101, 103]⟩ : ByteArray) [.string (⟨#[110, 101, 103]⟩ : ByteArray)] from rfl) (Reps.one (show Kd.M Kd.string _ _ _ (⟨#[116, 115, 116]⟩ : ByteArray) [.string (⟨#[116, 115, 116]⟩ : ByteArray)] from rfl) (Reps.one (show Kd.M Kd.string _ _ _ (⟨#[97, 115, 114]⟩ : ByteArray) [.string (⟨#[97, 115, 114]⟩ : ByteArray)] from rfl) (Reps.one (show Kd.M Kd.string _ _ _ (⟨#[97, 115, 108]⟩ : ByteArray) [.string (⟨#[97, 115, 108]⟩ : ByteArray)] from rfl) (Reps.one (show Kd.M Kd.string _ _ _ (⟨#[106, 109, 112]⟩ : ByteArray) [.string (⟨#[106, 109, 112]⟩ : ByteArray)] from rfl) (Reps.one (show Kd.M Kd.string _ _ _ (⟨#[106, 115, 114]⟩ : ByteArray) [.string (⟨#[106, 115, 114]⟩ : ByteArray)] from rfl) (Reps.one (show Kd.M Kd.string _ _ _ (⟨#[114, 116, 115]⟩ : ByteArray) [.string (⟨#[114, 116, 115]⟩ : ByteArray)] from rfl) (Reps.one (show Kd.M Kd.string _ _ _ (⟨#[98, 114]⟩ : ByteArray) [.string (⟨#[98, 114]⟩ : ByteArray)] from rfl) (Reps.one (show Kd.M Kd.string _ _ _ (⟨#[98, 110, 101]⟩ : ByteArray) [.string (⟨#[98, 110, 101]⟩ : ByteArray)] from rfl) (Reps.one (show Kd.M Kd.string _ _ _ (⟨#[98, 101, 113]⟩ : ByteArray) [.string (⟨#[98, 101, 113]⟩ : ByteArray)] from rfl) (Reps.one (show Kd.M Kd.string _ _ _ (⟨#[98, 103, 101]⟩ : ByteArray) [.string (⟨#[98, 103, 101]⟩ : ByteArray)] from rfl) (Reps.one (show Kd.M Kd.string _ _ _ (⟨#[98, 108, 116]⟩ : ByteArray) [.string (⟨#[98, 108, 116]⟩ : ByteArray)] from rfl) (Reps.one (show Kd.M Kd.string _ _ _ (⟨#[104, 97, 108, 116]⟩ : ByteArray) [.string (⟨#[104, 97, 108, 116]⟩ : ByteArray)] from rfl) (Reps.one (show Kd.M Kd.string _ _ _ (⟨#[101, 109, 116]⟩ : ByteArray) [.string (⟨#[101, 109, 116]⟩ : ByteArray)] from rfl) (Reps.none _ _))))))))))))))))))))))))); intro b3v w1 gx hb hg_ hnew_; clear hg_ hnew_; (first | rw [← alz.out] at gx | (simp only [Int.reduceToNat] at gx; rw [← alz.out] at gx)); have ast := ak (Kd.R_lower gx (below_size (z_4 HB.out))); replace HB := ak (below_step (z_4 HB.out) hb); clear hb gx))
 go_ret; exact ⟨_, z_17, z_7 ast.out, z_4 HB.out⟩
def impl_regWords.f  : Option (List ByteArray) := some (([(⟨#[114, 48]⟩ : ByteArray), (⟨#[114, 49]⟩ : ByteArray), (⟨#[114, 50]⟩ : ByteArray), (⟨#[114, 51]⟩ : ByteArray), (⟨#[114, 52]⟩ : ByteArray), (⟨#[114, 53]⟩ : ByteArray), (⟨#[115, 112]⟩ : ByteArray), (⟨#[112, 99]⟩ : ByteArray)] : List ByteArray))
set_option maxHeartbeats 8000000 in
set_option maxRecDepth 100000 in
theorem impl_regWords.calls  (r : List ByteArray) (w : World) (h : impl_regWords.f  = some r) :
 Calls Try.prog 70 #[] w fun e w' => ∃ v0_ : Value, e = .returned (v0_) ∧ Kd.R Kd.string 9 w' w.heap.size (fun _ => True) v0_ r ∧ Below w.heap.size w w' := by
 have HB := Aside0.mk (Below.refl w.heap.size w); have H : (some (([(⟨#[114, 48]⟩ : ByteArray), (⟨#[114, 49]⟩ : ByteArray), (⟨#[114, 50]⟩ : ByteArray), (⟨#[114, 51]⟩ : ByteArray), (⟨#[114, 52]⟩ : ByteArray), (⟨#[114, 53]⟩ : ByteArray), (⟨#[115, 112]⟩ : ByteArray), (⟨#[112, 99]⟩ : ByteArray)] : List ByteArray))) = some r := h; clear h; obtain ⟨asu, a9i⟩ : ∃ y_ : List ByteArray, y_ = (([(⟨#[114, 48]⟩ : ByteArray), (⟨#[114, 49]⟩ : ByteArray), (⟨#[114, 50]⟩ : ByteArray), (⟨#[114, 51]⟩ : ByteArray), (⟨#[114, 52]⟩ : ByteArray), (⟨#[114, 53]⟩ : ByteArray), (⟨#[115, 112]⟩ : ByteArray), (⟨#[112, 99]⟩ : ByteArray)] : List ByteArray)) := ⟨_, rfl⟩; replace H : (some asu) = some r := by first | (rw [a9i]; with_reducible exact H) | (have H2_ := (Option.bind_some _ _).symm.trans H; rw [a9i]; with_reducible exact H2_) | (have H2_ := (Option.bind_some _ _).symm.trans H; with_reducible exact H2_) | with_reducible exact H | (rw [a9i]; exact H) | exact H
 have am0 := Aside0.mk a9i; clear a9i; obtain rfl := Option.some.inj H
 go_enter Try.func70, Try.ntmps70
 go_wp2_with (first | ((with_reducible refine gate_dst (N := 1) rfl ?_); refine Kd.R_lit Kd.string _ 9 ?hg (N := 1) ?hd (xs := ([(⟨#[114, 48]⟩ : ByteArray), (⟨#[114, 49]⟩ : ByteArray), (⟨#[114, 50]⟩ : ByteArray), (⟨#[114, 51]⟩ : ByteArray), (⟨#[114, 52]⟩ : ByteArray), (⟨#[114, 53]⟩ : ByteArray), (⟨#[115, 112]⟩ : ByteArray), (⟨#[112, 99]⟩ : ByteArray)] : List ByteArray)) (inner := [.string (⟨#[114, 48]⟩ : ByteArray), .string (⟨#[114, 49]⟩ : ByteArray), .string (⟨#[114, 50]⟩ : ByteArray), .string (⟨#[114, 51]⟩ : ByteArray), .string (⟨#[114, 52]⟩ : ByteArray), .string (⟨#[114, 53]⟩ : ByteArray), .string (⟨#[115, 112]⟩ : ByteArray), .string (⟨#[112, 99]⟩ : ByteArray)]) (ok := fun _ => True) (okp := fun _ => True) ?hr ?hp (fun _ hk => hk) trivial (Below.refl _ _) (Nat.le_refl _) (by simp) ?_; (case hd => rfl); (case hg => rfl); (case hr => first | (go_simp; done) | (go_simp; rfl)); (case hp => exact (Reps.one (show Kd.M Kd.string _ _ _ (⟨#[114, 48]⟩ : ByteArray) [.string (⟨#[114, 48]⟩ : ByteArray)] from rfl) (Reps.one (show Kd.M Kd.string _ _ _ (⟨#[114, 49]⟩ : ByteArray) [.string (⟨#[114, 49]⟩ : ByteArray)] from rfl) (Reps.one (show Kd.M Kd.string _ _ _ (⟨#[114, 50]⟩ : ByteArray) [.string (⟨#[114, 50]⟩ : ByteArray)] from rfl) (Reps.one (show Kd.M Kd.string _ _ _ (⟨#[114, 51]⟩ : ByteArray) [.string (⟨#[114, 51]⟩ : ByteArray)] from rfl) (Reps.one (show Kd.M Kd.string _ _ _ (⟨#[114, 52]⟩ : ByteArray) [.string (⟨#[114, 52]⟩ : ByteArray)] from rfl) (Reps.one (show Kd.M Kd.string _ _ _ (⟨#[114, 53]⟩ : ByteArray) [.string (⟨#[114, 53]⟩ : ByteArray)] from rfl) (Reps.one (show Kd.M Kd.string _ _ _ (⟨#[115, 112]⟩ : ByteArray) [.string (⟨#[115, 112]⟩ : ByteArray)] from rfl) (Reps.one (show Kd.M Kd.string _ _ _ (⟨#[112, 99]⟩ : ByteArray) [.string (⟨#[112, 99]⟩ : ByteArray)] from rfl) (Reps.none _ _)))))))))); intro b3w w1 gx hb hg_ hnew_; clear hg_ hnew_; (first | rw [← am0.out] at gx | (simp only [Int.reduceToNat] at gx; rw [← am0.out] at gx)); have asv := ak (Kd.R_lower gx (below_size (z_4 HB.out))); replace HB := ak (below_step (z_4 HB.out) hb); clear hb gx))
 go_ret; exact ⟨_, z_17, z_7 asv.out, z_4 HB.out⟩
def impl_isKept.f (k : Nat) (a0 : ByteArray) : Option (Bool) := (impl_opWords.f).bind fun vs => ((impl_placeIn.f k vs a0).bind fun xj => (if xj ≥ 0 then (some true) else ((impl_regWords.f).bind fun a6b => ((impl_placeIn.f k a6b a0).bind fun a9j => (some (decide (a9j ≥ 0)))))))
theorem impl_isKept.mono : ∀ a0 k, LeO (impl_isKept.f k a0) (impl_isKept.f (k + 1) a0) := by
 intro a0 k; unfold impl_isKept.f
 repeat' first
  | (with_reducible exact impl_placeIn.mono _ _ _)
  | (with_reducible exact LeO.refl _)
  | (with_reducible exact LeO.none _)
  | (with_reducible refine LeO.ite ?_ ?_)
  | (with_reducible refine LeO.bind ?_ (fun _ => ?_))
  | exact impl_placeIn.mono _ _ _
  | exact LeO.none _
  | refine LeO.ite ?_ ?_
  | refine LeO.bind ?_ (fun _ => ?_)
set_option maxHeartbeats 8000000 in
set_option maxRecDepth 100000 in
theorem impl_isKept.calls (k : Nat) (a0 : ByteArray) (r : Bool) (w : World) (h : impl_isKept.f k a0 = some r) :
 Calls Try.prog 62 #[.string a0] w fun e w' => e = .returned (.bool r) ∧ Below w.heap.size w w' := by
 have HB := Aside0.mk (Below.refl w.heap.size w); have H : ((impl_opWords.f).bind fun vs => ((impl_placeIn.f k vs a0).bind fun xj => (if xj ≥ 0 then (some true) else ((impl_regWords.f).bind fun a6b => ((impl_placeIn.f k a6b a0).bind fun a9j => (some (decide (a9j ≥ 0)))))))) = some r := h; clear h; replace H := Option.bind_eq_some_iff.mp H; obtain ⟨vs, ec, H⟩ := H; have A2 := Aside0.mk ec; clear ec; replace H := Option.bind_eq_some_iff.mp H; obtain ⟨xj, gy, H⟩ := H; have A3 := Aside0.mk gy; clear gy
 by_cases c4 : xj ≥ 0
 ·rw [if_pos c4] at H; have kj : decide (0 ≤ xj) = true := decide_eq_true c4; clear c4; obtain rfl := Option.some.inj H
  go_enter Try.func62, Try.ntmps62
  go_wp2_with (first | ((with_reducible refine gate_callee (f := 69) rfl ?_); refine gl_ 3 Try.func69 #[] ?_; (with_reducible refine (impl_opWords.calls  vs _ A2.out).mono ?_); rintro e w5 ⟨asw, rfl, aq, hb⟩; refine ⟨_, rfl, ?_⟩; have vt := ak (Kd.R_lower aq (below_size (z_4 HB.out))); replace HB := ak (below_step (z_4 HB.out) hb); (try clear hb); (try clear hb2); (try clear hk); (try clear hi); (try clear aq); obtain ⟨xk, fv, eo6⟩ := Kd.R_slice vt.out; subst eo6) | ((with_reducible refine gate_callee (f := 32) rfl ?_); refine gl_ 5 Try.func32 #[.slice xk vs.length fv, .string a0] ?_; refine (impl_placeIn.calls k _ _ vs a0 xj _ (z_18 vt.out) ((Kd.R_reads' vt.out).2.1) A3.out).mono ?_; rintro e w' ⟨rfl, ⟨nd, rfl⟩⟩; refine ⟨_, rfl, ?_⟩)); go_ret; exact ⟨z_17, z_4 HB.out⟩
 ·rw [if_neg c4] at H; have kj : decide (0 ≤ xj) = false := decide_eq_false c4; clear c4; replace H := Option.bind_eq_some_iff.mp H; obtain ⟨a6b, kk, H⟩ := H; have A7 := Aside0.mk kk; clear kk; replace H := Option.bind_eq_some_iff.mp H; obtain ⟨a9j, qe, H⟩ := H; have A8 := Aside0.mk qe; clear qe; obtain rfl := Option.some.inj H
  go_enter Try.func62, Try.ntmps62
  go_wp2_with (first | ((with_reducible refine gate_callee (f := 69) rfl ?_); refine gl_ 3 Try.func69 #[] ?_; (with_reducible refine (impl_opWords.calls  vs _ A2.out).mono ?_); rintro e w9 ⟨asw, rfl, aq, hb⟩; refine ⟨_, rfl, ?_⟩; have vt := ak (Kd.R_lower aq (below_size (z_4 HB.out))); replace HB := ak (below_step (z_4 HB.out) hb); (try clear hb); (try clear hb2); (try clear hk); (try clear hi); (try clear aq); obtain ⟨asx, asy, asz⟩ := Kd.R_slice vt.out; subst asz) | ((with_reducible refine gate_callee (f := 32) rfl ?_); refine gl_ 5 Try.func32 #[.slice asx vs.length asy, .string a0] ?_; refine (impl_placeIn.calls k _ _ vs a0 xj _ (z_18 vt.out) ((Kd.R_reads' vt.out).2.1) A3.out).mono ?_; rintro e w' ⟨rfl, ⟨nd, rfl⟩⟩; (try clear A3); refine ⟨_, rfl, ?_⟩) | (go_at_call 70; (with_reducible refine (impl_regWords.calls  a6b _ A7.out).mono ?_); rintro e vu ⟨b3x, rfl, aq, hb⟩; have agv := ak (Kd.R_lower (Kd.R_new' aq (Kd.R_lt (z_7 vt.out))) (below_size (z_4 HB.out))); replace vt := ak (Kd.R_elder' (z_7 vt.out) (Kd.R_base aq) hb); replace HB := ak (below_step (z_4 HB.out) hb); (try clear hb); (try clear hb2); (try clear hk); (try clear hi); (try clear aq); obtain ⟨jb, hv, a2r⟩ := Kd.R_slice agv.out; subst a2r) | (go_at_call 32; refine (impl_placeIn.calls k _ _ a6b a0 a9j _ (z_18 agv.out) ((Kd.R_reads' agv.out).2.1) A8.out).mono ?_; rintro e w' ⟨rfl, ⟨nd, rfl⟩⟩))
  go_ret; exact ⟨z_17, z_4 HB.out⟩
def impl_isName.f (k : Nat) (a0 : ByteArray) : Option (Bool) := (impl_hasForm.f k a0).bind fun a9k => (if a9k = true then ((impl_isKept.f k a0).bind fun xl => (some (!xl))) else (some false))
theorem impl_isName.mono : ∀ a0 k, LeO (impl_isName.f k a0) (impl_isName.f (k + 1) a0) := by
 intro a0 k; unfold impl_isName.f
 repeat' first
  | (with_reducible exact impl_hasForm.mono _ _)
  | (with_reducible exact impl_isKept.mono _ _)
  | (with_reducible exact LeO.refl _)
  | (with_reducible exact LeO.none _)
  | (with_reducible refine LeO.ite ?_ ?_)
  | (with_reducible refine LeO.bind ?_ (fun _ => ?_))
  | exact impl_hasForm.mono _ _
  | exact impl_isKept.mono _ _
  | exact LeO.none _
  | refine LeO.ite ?_ ?_
  | refine LeO.bind ?_ (fun _ => ?_)
set_option maxHeartbeats 8000000 in
set_option maxRecDepth 100000 in
theorem impl_isName.calls (k : Nat) (a0 : ByteArray) (r : Bool) (w : World) (h : impl_isName.f k a0 = some r) :
 Calls Try.prog 56 #[.string a0] w fun e w' => e = .returned (.bool r) ∧ Below w.heap.size w w' := by
 have HB := Aside0.mk (Below.refl w.heap.size w); have H : ((impl_hasForm.f k a0).bind fun a9k => (if a9k = true then ((impl_isKept.f k a0).bind fun xl => (some (!xl))) else (some false))) = some r := h; clear h; replace H := Option.bind_eq_some_iff.mp H; obtain ⟨a9k, ec, H⟩ := H; have A2 := Aside0.mk ec; clear ec
 by_cases c3 : a9k = true
 ·subst c3; rw [if_pos rfl] at H; replace H := Option.bind_eq_some_iff.mp H; obtain ⟨xl, fe, H⟩ := H; have A4 := Aside0.mk fe; clear fe; obtain rfl := Option.some.inj H
  go_enter Try.func56, Try.ntmps56
  go_wp2_with (first | ((with_reducible refine gate_callee (f := 61) rfl ?_); refine gl_ 4 Try.func61 #[.string a0] ?_; (with_reducible refine (impl_hasForm.calls k a0 true _ A2.out).mono ?_); rintro e w' ⟨rfl, ⟨nd, rfl⟩⟩; refine ⟨_, rfl, ?_⟩) | (go_at_call 62; (with_reducible refine (impl_isKept.calls k a0 xl _ A4.out).mono ?_); rintro e w5 ⟨rfl, hb⟩; replace HB := ak (below_step (z_4 HB.out) hb); (try clear hb); (try clear hb2); (try clear hk); (try clear hi))); go_ret; exact ⟨z_17, z_4 HB.out⟩
 ·replace c3 := Bool.eq_false_iff.mpr c3; subst c3; rw [if_neg (show ¬ (false = true) by decide)] at H; obtain rfl := Option.some.inj H
  go_enter Try.func56, Try.ntmps56
  go_wp2_with (first | ((with_reducible refine gate_callee (f := 61) rfl ?_); refine gl_ 4 Try.func61 #[.string a0] ?_; (with_reducible refine (impl_hasForm.calls k a0 false _ A2.out).mono ?_); rintro e w' ⟨rfl, ⟨nd, rfl⟩⟩; refine ⟨_, rfl, ?_⟩)); go_ret; exact ⟨z_17, z_4 HB.out⟩
end Go.Proofs.Ytdphpmejjlgpnaa.PFnTreesBent

