import Derived.Test.YtdphpmejjlgpnaaD0
import Derived.Test.YtdphpmejjlgpnaaD2
import Derived.Test.YtdphpmejjlgpnaaD3
import Derived.Test.YtdphpmejjlgpnaaDZ
set_option linter.unusedVariables false
set_option linter.unusedSimpArgs false
set_option linter.unusedSectionVars false
namespace Go.Proofs.Ytdphpmejjlgpnaa.PFnTreesBent
open Go.RowKit Go.Proofs.YtdphpmejjlgpnaaW.PrintWords Go.Proofs.YtdphpmejjlgpnaaW.PrintLast Go.Proofs.YtdphpmejjlgpnaaW.PrintMore Go.Proofs.Ytdphpmejjlgpnaa.Short
attribute [local go_sem] max2_int min2_int max_two min_two max_three min_three max_four min_four
mutual
def impl_modsOf.l0 : Nat → List ByteArray → List (S27) → Int → Int → Option (List ByteArray)
 | 0, _, _, _, _ => none
 | k + 1, x3, fp, kh, gi => if gi < kh then (if 0 ≤ gi then (if gi < (fp.length : Int) then ((impl_modsOf.f k ((rd_T27 fp gi).f0) ((rd_T27 fp gi).f1) ((rd_T27 fp gi).f2)).bind fun vz => (if x3.length + vz.length < 8796093022208 then (impl_modsOf.l0 k (x3 ++ vz) fp kh (wrap64 (gi + 1))) else (none))) else (none)) else (none)) else (some x3)
def impl_modsOf.f : Nat → ByteArray → List ByteArray → List (S27) → Option (List ByteArray)
 | 0, _, _, _ => none
 | k + 1, ae, ac, ab => (impl_copyTexts.f ac).bind fun io => (impl_modsOf.l0 k io ab (ab.length : Int) 0)
end
theorem impl_modsOf.mono_l : ∀ k, (∀ y0 y1 y2, LeO (impl_modsOf.f k y0 y1 y2) (impl_modsOf.f (k + 1) y0 y1 y2)) ∧ (∀ y0 y1 y2 y3, LeO (impl_modsOf.l0 k y0 y1 y2 y3) (impl_modsOf.l0 (k + 1) y0 y1 y2 y3))
 | 0 => ⟨fun _ _ _ r h => by simp [impl_modsOf.f] at h, fun _ _ _ _ r h => by simp [impl_modsOf.l0] at h⟩
 | k + 1 => by
  obtain ⟨ih0, ih1⟩ := impl_modsOf.mono_l k; refine ⟨?_, ?_⟩
  all_goals
   intros
   first | unfold impl_modsOf.f | unfold impl_modsOf.l0
   repeat' first
   | (with_reducible exact ih0 _ _ _)
   | (with_reducible exact ih1 _ _ _ _)
   | (with_reducible exact LeO.refl _)
   | (with_reducible exact LeO.none _)
   | (with_reducible refine LeO.ite ?_ ?_)
   | (with_reducible refine LeO.bind ?_ (fun _ => ?_))
   | exact ih0 _ _ _
   | exact ih1 _ _ _ _
   | exact LeO.none _
   | refine LeO.ite ?_ ?_
   | refine LeO.bind ?_ (fun _ => ?_)
theorem impl_modsOf.mono : ∀ a0 a1 a2 k, LeO (impl_modsOf.f k a0 a1 a2) (impl_modsOf.f (k + 1) a0 a1 a2) := by
 intro a0 a1 a2 k; obtain ⟨ih0, ih1⟩ := impl_modsOf.mono_l k; exact ih0 a0 a1 a2
set_option maxHeartbeats 8000000 in
set_option maxRecDepth 100000 in
theorem impl_modsOf.calls (k : Nat) : ∀ (ae : ByteArray) (am : Option Addr) (an : Nat) (ac : List ByteArray) (ar : Option Addr) (ao : Nat) (ab : List (S27)) (r : List ByteArray) (w : World) (hr0_1 : Kd.C Kd.string w am ac.length ac) (hc0_1 : ac.length ≤ an) (hr0_2 : Kd.C k27 w ar ab.length ab) (hc0_2 : ab.length ≤ ao) (h : impl_modsOf.f k ae ac ab = some r),
 Calls Try.prog 52 #[.agg #[.string ae, .slice am ac.length an, .slice ar ab.length ao]] w fun e w' => ∃ v0_ : Value, e = .returned (v0_) ∧ Kd.R Kd.string 9 w' w.heap.size (fun _ => True) v0_ r ∧ Below w.heap.size w w' := by
 induction k using Nat.strongRecOn with
 | _ k ih =>
 intro ae am an ac ar ao ab r w hr0_1 hc0_1 hr0_2 hc0_2 h
 cases k with
 | zero => exact absurd h (by simp [impl_modsOf.f])
 | succ k =>
 simp only [impl_modsOf.f] at h; have hu27 := Try.underlying27; have du := Aside0.mk hr0_1; have eb := Aside0.mk hc0_1; clear hr0_1 hc0_1; have dk := Aside0.mk hr0_2; have ef := Aside0.mk hc0_2; clear hr0_2 hc0_2; have HB := Aside0.mk (Below.refl w.heap.size w); have H : ((impl_copyTexts.f ac).bind fun io => (impl_modsOf.l0 k io ab (ab.length : Int) 0)) = some r := h; clear h; replace H := Option.bind_eq_some_iff.mp H; obtain ⟨io, ec, H⟩ := H; have A2 := Aside0.mk ec; clear ec; have H' := Aside0.mk H; clear H
 go_enter Try.func52, Try.ntmps52
 go_wp2_with (first | ((with_reducible refine gate_dst (N := 1) rfl ?_); refine box_event ?hg (N := 1) ?hd (cs := #[.string ae, .slice am ac.length an, .slice ar ab.length ao]) (t := 27) ?hr ?_; (case hd => rfl); (case hg => rfl); (case hr => first | (go_simp; done) | (go_simp; rfl)); intro xw hg w3 hbox hb; have jc := ak hbox; have b4k := ak ((z_3 HB.out : w.heap.size ≤ xw)); have qg := ak ((z_3 HB.out : w.heap.size ≤ xw)); replace HB := ak (below_step (z_4 HB.out) hb); clear hb hbox hg; have a9y := bc jc.out 0; have a9z := bc jc.out 1; have aa0 := bc jc.out 2; have ah7 := blk_frozen jc.out 0; have aeg := blk_frozen jc.out 1; have aeh := blk_frozen jc.out 2) | ((with_reducible refine gate_callee (f := 57) rfl ?_); refine gl_ 8 Try.func57 #[.slice am ac.length an] ?_; refine (impl_copyTexts.calls _ _ ac io _ (z_25 du.out HB.out) eb.out A2.out).mono ?_; rintro e w5 ⟨b4l, rfl, aq, hb⟩; refine ⟨_, rfl, ?_⟩; have atd := ak (Kd.R_lower aq (below_size (z_5 HB.out qg.out))); replace jc := bb jc hb; replace HB := ak (below_step (z_5 HB.out qg.out) hb); (try clear hb); (try clear hb2); (try clear hk); (try clear hi); (try clear aq); have a2h := bc jc.out 0; have a2i := bc jc.out 1; have a2j := bc jc.out 2; have a2k := blk_frozen jc.out 0; have a2l := blk_frozen jc.out 1; have a2m := blk_frozen jc.out 2))
 go_loopg [3, 12] k (fun kq v3 v12 w' => ∃ (cb : List ByteArray) (dr : Int), v12 = .int .i64 dr ∧ Aside0 (impl_modsOf.l0 kq cb ab (ab.length : Int) dr = some r) ∧ Aside0 (kq ≤ k) ∧ Aside0 (Kd.R Kd.string 9 w' w.heap.size (fun _ => True) v3 cb) ∧ Aside0 (w'.heap[xw]? = some (.cells #[.string ae, (.slice am ac.length an), (.slice ar ab.length ao)] 27 (0, 0))) ∧ Aside0 (Below w.heap.size w w'))
 case atStart => exact ⟨(io), (0), z_6, H', ⟨Nat.le_refl _⟩, ⟨z_7 atd.out⟩, ⟨z_8 jc.out⟩, ⟨z_5 HB.out qg.out⟩⟩
 case round =>
  clear H'; (try clear a9y); (try clear a9z); (try clear aa0); (try clear a2h); (try clear a2i); (try clear a2j); (try clear ah7); (try clear aeg); (try clear aeh); (try clear a2k); (try clear a2l); (try clear a2m); obtain ⟨cb, dr, rfl, HA, HK1, bm, jc, HB⟩ := hrel
  cases gk with
  | zero => exact absurd HA.out (by simp [impl_modsOf.l0])
  | succ k1 =>
   have H := HA.out; clear HA; simp only [impl_modsOf.l0] at H
   by_cases c7 : dr < (ab.length : Int)
   ·rw [if_pos c7] at H; have pk := decide_eq_true c7; clear c7
    by_cases c8 : 0 ≤ dr
    ·rw [if_pos c8] at H; have ky := decide_eq_true c8; clear c8
     by_cases c9 : dr < (ab.length : Int)
     ·rw [if_pos c9] at H; have si := decide_eq_true c9; clear c9; replace H := Option.bind_eq_some_iff.mp H; obtain ⟨vz, ki, H⟩ := H; have lx := Aside0.mk ki; clear ki
      by_cases dw : cb.length + vz.length < 8796093022208
      ·rw [if_pos dw] at H; have agm := Aside0.mk dw; clear dw; obtain ⟨amb, aa1⟩ : ∃ y_ : List ByteArray, y_ = (cb ++ vz) := ⟨_, rfl⟩; replace H : (impl_modsOf.l0 k1 amb ab (ab.length : Int) (wrap64 (dr + 1))) = some r := by first | (rw [aa1]; with_reducible exact H) | (have H2_ := (Option.bind_some _ _).symm.trans H; rw [aa1]; with_reducible exact H2_) | (have H2_ := (Option.bind_some _ _).symm.trans H; with_reducible exact H2_) | with_reducible exact H | (rw [aa1]; exact H) | exact H
       have ate := Aside0.mk aa1; clear aa1; have H' := Aside0.mk H; clear H; have ah8 : 0 ≤ (dr : Int) := of_decide_eq_true z_9; have ah9 : dr < (ab.length : Int) := of_decide_eq_true z_9; obtain ⟨aei, a6d, a6e, aa2, aa3, atf, aha, ahb, ahc, amc, amd, ame, amf⟩ := at_T27 dk.out dr ah8 ah9; cases atf; replace aha := (HB.out.cell (World.block_lt_of_cell? w _ aha)).trans aha; replace ahb := (HB.out.cell (World.block_lt_of_cell? w _ ahb)).trans ahb; replace ahc := (HB.out.cell (World.block_lt_of_cell? w _ ahc)).trans ahc; have atg := Aside0.mk amd; have ath := Aside0.mk amc; clear amd amc; have ati := Aside0.mk amf; have atj := Aside0.mk ame; clear amf ame; replace ah8 := eq_true ah8; replace ah9 := eq_true ah9; go_wp2_with (first | ((with_reducible refine gate_dst (N := 5) rfl ?_); refine box_event ?hg (N := 5) ?hd (cs := #[.string (⟨#[]⟩ : ByteArray), .slice none 0 0, .slice none 0 0]) (t := 27) ?hr ?_; (case hd => rfl); (case hg => rfl); (case hr => first | (go_simp; done) | (go_simp; rfl)); intro sl hg xi hbox hb; replace bm := rb bm hb; have rj := ak hbox; have b4m := ak ((z_10 HB.out qg.out : w.heap.size ≤ sl)); have a3a := ak ((z_10 HB.out qg.out : w.heap.size ≤ sl)); replace HB := ak (below_step (z_5 HB.out qg.out) hb); have aej := ak ((by rw [hg]; exact Nat.ne_of_lt (blk_lt (g := xw) (o := .cells #[.string ae, .slice am ac.length an, .slice (some aei) ab.length ao] 27 (0, 0)) (z_8 jc.out)) : xw ≠ sl)); have atk := ak ((by rw [hg]; exact Nat.ne_of_gt (blk_lt (g := xw) (o := .cells #[.string ae, .slice am ac.length an, .slice (some aei) ab.length ao] 27 (0, 0)) (z_8 jc.out)) : sl ≠ xw)); replace jc := bb jc hb; clear hb hbox hg; have asm := atk.out; have asn := aej.out; have qz := bc rj.out 0; have ra := bc rj.out 1; have rc := bc rj.out 2; have re := blk_frozen rj.out 0; have rf := blk_frozen rj.out 1; have rg := blk_frozen rj.out 2) | ((with_reducible refine gate_callee (f := 52) rfl ?_); refine gl_ 18 Try.func52 #[.agg #[.string ((rd_T27 ab dr).f0), .slice a6d ((rd_T27 ab dr).f1).length a6e, .slice aa2 ((rd_T27 ab dr).f2).length aa3]] ?_; refine (ih k1 (by have := HK1.out; omega) ((rd_T27 ab dr).f0) _ _ ((rd_T27 ab dr).f1) _ _ ((rd_T27 ab dr).f2) vz _ (Kd.C_below atg.out (z_11 HB.out qg.out a3a.out)) ath.out (Kd.C_below ati.out (z_11 HB.out qg.out a3a.out)) atj.out lx.out).mono ?_; rintro e vr ⟨b4n, rfl, aq, hb⟩; refine ⟨_, rfl, ?_⟩; have aa4 := ak (Kd.R_lower (Kd.R_new' aq (Kd.R_lt (z_26 bm.out rj.out))) (below_size (z_11 HB.out qg.out a3a.out))); replace bm := ak (Kd.R_elder' (z_26 bm.out rj.out) (Kd.R_base aq) hb); replace jc := ak (blk_below (g := xw) (o := .cells #[.string ae, .slice am ac.length an, .slice (some aei) ab.length ao] 27 (0, 0)) (z_13 aej.out jc.out) hb); replace rj := ak (blk_below (g := sl) (o := .cells #[.string ((rd_T27 ab dr).f0), .slice a6d ((rd_T27 ab dr).f1).length a6e, .slice aa2 ((rd_T27 ab dr).f2).length aa3] 27 (0, 0)) (by (with_reducible repeat (first | refine blk_drewN ?_ _ | refine blk_drew ?_ | refine blk_alloc ?_ _)); refine blk_put (cs := #[.string ((rd_T27 ab dr).f0), .slice a6d ((rd_T27 ab dr).f1).length a6e, .slice none 0 0]) ?_ 2 _ rfl; (with_reducible repeat (first | refine blk_drewN ?_ _ | refine blk_drew ?_ | refine blk_alloc ?_ _)); refine blk_put (cs := #[.string ((rd_T27 ab dr).f0), .slice none 0 0, .slice none 0 0]) ?_ 1 _ rfl; (with_reducible repeat (first | refine blk_drewN ?_ _ | refine blk_drew ?_ | refine blk_alloc ?_ _)); refine blk_put (cs := #[.string (⟨#[]⟩ : ByteArray), .slice none 0 0, .slice none 0 0]) ?_ 0 _ rfl; (with_reducible repeat (first | refine blk_drewN ?_ _ | refine blk_drew ?_ | refine blk_alloc ?_ _)); exact rj.out) hb); replace HB := ak (below_step (z_11 HB.out qg.out a3a.out) hb); (try clear hb); (try clear hb2); (try clear hk); (try clear hi); (try clear aq); obtain ⟨a5y, a5z, a8y⟩ := Kd.R_slice aa4.out; subst a8y) | ((with_reducible refine gate_builtin (b := .append) (xs := #[.tmp 16, .tmp 18]) rfl ?_); at_builtin; refine Kd.R_append_rows Kd.string (w0 := w) w.heap.size rfl (.tmp 16) (.tmp 18) 24 9 (.string ⟨#[]⟩) 16 rfl Try.underlying24 info9 rfl (by decide) (by omega) u3 cb vz _ _ _ (fun k_ => some k_ ≠ (.slice a5y vz.length a5z : Value).ownBlock) (fun _ => False) rfl rfl ?aO ?aR (fun _ _ h => h) (fun _ h => h.elim) ?aF ?aB ?aS ?aL ?_; (case aR => exact z_14 aa4.out); (case aB => exact z_11 HB.out qg.out a3a.out); (case aF => exact (fun k_ hk => Kd.fresh' (Kd.R_lt (z_7 aa4.out)) k_ hk)); (case aO => exact z_15 bm.out); (case aS => exact (below_size (z_11 HB.out qg.out a3a.out))); (case aL => have := agm.out; omega); intro b4o w16 ho hb hg hat; rw [← ate.out] at ho; replace jc := ak (blk_grown (g := xw) (o := .cells #[.string ae, .slice am ac.length an, .slice (some aei) ab.length ao] 27 (0, 0)) (z_8 jc.out) hg (Kd.R_ne bm.out jc.out (by decide))); replace rj := ak (blk_grown (g := sl) (o := .cells #[.string ((rd_T27 ab dr).f0), .slice a6d ((rd_T27 ab dr).f1).length a6e, .slice aa2 ((rd_T27 ab dr).f2).length aa3] 27 (0, 0)) (z_8 rj.out) hg (Kd.R_ne bm.out rj.out (by decide))); replace aa4 := ak (Kd.R_after (ok := (fun _ => True)) (z_7 aa4.out) hg hat); replace HB := ak hb; have atl := ak ho; clear bm; clear ho hb hg hat))
       go_roundg k1
       case measure => have := HK1.out; omega
       case rel => exact ⟨(amb), (wrap64 (dr + 1)), z_6, H', ⟨by have := HK1.out; omega⟩, ⟨z_16 atl.out⟩, ⟨z_8 jc.out⟩, ⟨z_11 HB.out qg.out a3a.out⟩⟩
      ·rw [if_neg dw] at H; exact absurd H (by simp)
     ·rw [if_neg c9] at H; exact absurd H (by simp)
    ·rw [if_neg c8] at H; exact absurd H (by simp)
   ·rw [if_neg c7] at H; have pk := decide_eq_false c7; clear c7; obtain rfl := Option.some.inj H; go_wp2; go_ret; exact ⟨_, z_17, z_7 bm.out, z_5 HB.out qg.out⟩
def impl_SegOk.f (k : Nat) (ae : ByteArray) (ac : List ByteArray) (ab : List (S27)) : Option (Bool) := (impl_treeOk.f k ae ac ab 4).bind fun aa5 => (if aa5 = true then ((impl_Segs.f k ae ac ab).bind fun we => (if (we.length : Int) ≤ 12 then ((impl_Segs.f k ae ac ab).bind fun a0v => ((impl_unlike.f a0v).bind fun aa6 => (if aa6 = true then ((impl_modsOf.f k ae ac ab).bind fun a6f => ((impl_unlike.f a6f).bind fun aa7 => (some aa7))) else (some false)))) else (some false))) else (some false))
theorem impl_SegOk.mono : ∀ a0 a1 a2 k, LeO (impl_SegOk.f k a0 a1 a2) (impl_SegOk.f (k + 1) a0 a1 a2) := by
 intro a0 a1 a2 k; unfold impl_SegOk.f
 repeat' first
  | (with_reducible exact impl_Segs.mono _ _ _ _)
  | (with_reducible exact impl_modsOf.mono _ _ _ _)
  | (with_reducible exact impl_treeOk.mono _ _ _ _ _)
  | (with_reducible exact LeO.refl _)
  | (with_reducible exact LeO.none _)
  | (with_reducible refine LeO.ite ?_ ?_)
  | (with_reducible refine LeO.bind ?_ (fun _ => ?_))
  | exact impl_Segs.mono _ _ _ _
  | exact impl_modsOf.mono _ _ _ _
  | exact impl_treeOk.mono _ _ _ _ _
  | exact LeO.none _
  | refine LeO.ite ?_ ?_
  | refine LeO.bind ?_ (fun _ => ?_)
set_option maxHeartbeats 8000000 in
set_option maxRecDepth 100000 in
theorem impl_SegOk.calls (k : Nat) (ae : ByteArray) (am : Option Addr) (an : Nat) (ac : List ByteArray) (ar : Option Addr) (ao : Nat) (ab : List (S27)) (r : Bool) (w : World) (hr0_1 : Kd.C Kd.string w am ac.length ac) (hc0_1 : ac.length ≤ an) (hr0_2 : Kd.C k27 w ar ab.length ab) (hc0_2 : ab.length ≤ ao) (h : impl_SegOk.f k ae ac ab = some r) :
 Calls Try.prog 28 #[.agg #[.string ae, .slice am ac.length an, .slice ar ab.length ao]] w fun e w' => e = .returned (.bool r) ∧ Below w.heap.size w w' := by
 have hu27 := Try.underlying27; have du := Aside0.mk hr0_1; have eb := Aside0.mk hc0_1; clear hr0_1 hc0_1; have dk := Aside0.mk hr0_2; have ef := Aside0.mk hc0_2; clear hr0_2 hc0_2; have HB := Aside0.mk (Below.refl w.heap.size w); have H : ((impl_treeOk.f k ae ac ab 4).bind fun aa5 => (if aa5 = true then ((impl_Segs.f k ae ac ab).bind fun we => (if (we.length : Int) ≤ 12 then ((impl_Segs.f k ae ac ab).bind fun a0v => ((impl_unlike.f a0v).bind fun aa6 => (if aa6 = true then ((impl_modsOf.f k ae ac ab).bind fun a6f => ((impl_unlike.f a6f).bind fun aa7 => (some aa7))) else (some false)))) else (some false))) else (some false))) = some r := h; clear h; replace H := Option.bind_eq_some_iff.mp H; obtain ⟨aa5, ec, H⟩ := H; have A2 := Aside0.mk ec; clear ec
 by_cases c3 : aa5 = true
 ·subst c3; rw [if_pos rfl] at H; replace H := Option.bind_eq_some_iff.mp H; obtain ⟨we, fe, H⟩ := H; have A4 := Aside0.mk fe; clear fe
  by_cases c5 : (we.length : Int) ≤ 12
  ·rw [if_pos c5] at H; have kz := decide_eq_true c5; have ahd : decide (we.length ≤ 12) = true := decide_eq_true (by omega); clear c5; replace H := Option.bind_eq_some_iff.mp H; obtain ⟨a0v, ii, H⟩ := H; have A6 := Aside0.mk ii; clear ii; replace H := Option.bind_eq_some_iff.mp H; obtain ⟨aa6, kk, H⟩ := H; have A7 := Aside0.mk kk; clear kk
   by_cases c8 : aa6 = true
   ·subst c8; rw [if_pos rfl] at H; replace H := Option.bind_eq_some_iff.mp H; obtain ⟨a6f, jn, H⟩ := H; have A9 := Aside0.mk jn; clear jn; replace H := Option.bind_eq_some_iff.mp H; obtain ⟨aa7, ki, H⟩ := H; have lx := Aside0.mk ki; clear ki; obtain rfl := Option.some.inj H
    go_enter Try.func28, Try.ntmps28
    go_wp2_with (first | ((with_reducible refine gate_dst (N := 1) rfl ?_); (try (refine gate_guard (by rfl) ?_; dsimp only)); refine box_event ?hg (N := 1) ?hd (cs := #[.string ae, .slice am ac.length an, .slice ar ab.length ao]) (t := 27) ?hr ?_; (case hd => rfl); (case hg => rfl); (case hr => first | (go_simp; done) | (go_simp; rfl)); intro ue hg vu hbox hb; have ch := ak hbox; have ahe := ak ((z_3 HB.out : w.heap.size ≤ ue)); have jd := ak ((z_3 HB.out : w.heap.size ≤ ue)); replace HB := ak (below_step (z_4 HB.out) hb); clear hb hbox hg; have nx := bc ch.out 0; have nz := bc ch.out 1; have oa := bc ch.out 2; have ob := blk_frozen ch.out 0; have oc := blk_frozen ch.out 1; have od := blk_frozen ch.out 2) | ((with_reducible refine gate_callee (f := 50) rfl ?_); refine gl_ 4 Try.func50 #[.agg #[.string ae, .slice am ac.length an, .slice ar ab.length ao], .int .i64 4] ?_; refine (impl_treeOk.calls k ae _ _ ac _ _ ab 4 true _ (z_25 du.out HB.out) eb.out (z_25 dk.out HB.out) ef.out A2.out).mono ?_; rintro e w13 ⟨rfl, hb⟩; refine ⟨_, rfl, ?_⟩; replace ch := bb ch hb; replace HB := ak (below_step (z_5 HB.out jd.out) hb); (try clear hb); (try clear hb2); (try clear hk); (try clear hi); have qz := bc ch.out 0; have ra := bc ch.out 1; have rc := bc ch.out 2; have re := blk_frozen ch.out 0; have rf := blk_frozen ch.out 1; have rg := blk_frozen ch.out 2) | (go_at_call 10; refine (impl_Segs.calls k ae _ _ ac _ _ ab we _ (z_25 du.out HB.out) eb.out (z_25 dk.out HB.out) ef.out A4.out).mono ?_; rintro e vr ⟨amg, rfl, aq, hb⟩; (try clear A4); have mb := ak (Kd.R_lower aq (below_size (z_5 HB.out jd.out))); replace ch := bb ch hb; replace HB := ak (below_step (z_5 HB.out jd.out) hb); (try clear hb); (try clear hb2); (try clear hk); (try clear hi); (try clear aq); obtain ⟨sm, rk, a3b⟩ := Kd.R_slice mb.out; subst a3b; have aek := bc ch.out 0; have ael := bc ch.out 1; have aem := bc ch.out 2; have aen := blk_frozen ch.out 0; have aeo := blk_frozen ch.out 1; have aep := blk_frozen ch.out 2) | (go_at_call 10; refine (impl_Segs.calls k ae _ _ ac _ _ ab a0v _ (z_25 du.out HB.out) eb.out (z_25 dk.out HB.out) ef.out A6.out).mono ?_; rintro e w18 ⟨atm, rfl, aq, hb⟩; (try clear A6); have ow := ak (Kd.R_lower (Kd.R_new' aq (Kd.R_lt (z_7 mb.out))) (below_size (z_5 HB.out jd.out))); replace mb := ak (Kd.R_elder' (z_7 mb.out) (Kd.R_base aq) hb); replace ch := bb ch hb; replace HB := ak (below_step (z_5 HB.out jd.out) hb); (try clear hb); (try clear hb2); (try clear hk); (try clear hi); (try clear aq); obtain ⟨a6g, a3c, a0w⟩ := Kd.R_slice ow.out; subst a0w) | (go_at_call 51; refine (impl_unlike.calls _ _ a0v true _ (z_18 ow.out) ((Kd.R_reads' ow.out).2.1) A7.out).mono ?_; rintro e w20 ⟨rfl, hb⟩; (try clear A7); replace mb := rb mb hb; replace ow := rb ow hb; replace ch := bb ch hb; replace HB := ak (below_step (z_5 HB.out jd.out) hb); (try clear hb); (try clear hb2); (try clear hk); (try clear hi); have ahf := bc ch.out 0; have ahg := bc ch.out 1; have ahh := bc ch.out 2; have ahi := blk_frozen ch.out 0; have ahj := blk_frozen ch.out 1; have ahk := blk_frozen ch.out 2) | (go_at_call 52; refine (impl_modsOf.calls k ae _ _ ac _ _ ab a6f _ (z_25 du.out HB.out) eb.out (z_25 dk.out HB.out) ef.out A9.out).mono ?_; rintro e w22 ⟨b4p, rfl, aq, hb⟩; have aa8 := ak (Kd.R_lower (Kd.R_new' (Kd.R_new' aq (Kd.R_lt (z_7 mb.out))) (Kd.R_lt (z_7 ow.out))) (below_size (z_5 HB.out jd.out))); replace mb := ak (Kd.R_elder' (z_7 mb.out) (Kd.R_base aq) hb); replace ow := ak (Kd.R_elder' (z_7 ow.out) (Kd.R_base aq) hb); replace ch := bb ch hb; replace HB := ak (below_step (z_5 HB.out jd.out) hb); (try clear hb); (try clear hb2); (try clear hk); (try clear hi); (try clear aq); obtain ⟨amh, ami, ahl⟩ := Kd.R_slice aa8.out; subst ahl) | (go_at_call 51; refine (impl_unlike.calls _ _ a6f aa7 _ (z_18 aa8.out) ((Kd.R_reads' aa8.out).2.1) lx.out).mono ?_; rintro e w24 ⟨rfl, hb⟩; (try clear lx); replace mb := rb mb hb; replace ow := rb ow hb; replace aa8 := rb aa8 hb; replace ch := bb ch hb; replace HB := ak (below_step (z_5 HB.out jd.out) hb); (try clear hb); (try clear hb2); (try clear hk); (try clear hi)))
    go_ret; exact ⟨z_17, z_5 HB.out jd.out⟩
   ·replace c8 := Bool.eq_false_iff.mpr c8; subst c8; rw [if_neg (show ¬ (false = true) by decide)] at H; obtain rfl := Option.some.inj H
    go_enter Try.func28, Try.ntmps28
    go_wp2_with (first | ((with_reducible refine gate_dst (N := 1) rfl ?_); (try (refine gate_guard (by rfl) ?_; dsimp only)); refine box_event ?hg (N := 1) ?hd (cs := #[.string ae, .slice am ac.length an, .slice ar ab.length ao]) (t := 27) ?hr ?_; (case hd => rfl); (case hg => rfl); (case hr => first | (go_simp; done) | (go_simp; rfl)); intro ue hg w25 hbox hb; have ch := ak hbox; have ahe := ak ((z_3 HB.out : w.heap.size ≤ ue)); have jd := ak ((z_3 HB.out : w.heap.size ≤ ue)); replace HB := ak (below_step (z_4 HB.out) hb); clear hb hbox hg; have am3 := bc ch.out 0; have am4 := bc ch.out 1; have am5 := bc ch.out 2; have am6 := blk_frozen ch.out 0; have am7 := blk_frozen ch.out 1; have am8 := blk_frozen ch.out 2) | ((with_reducible refine gate_callee (f := 50) rfl ?_); refine gl_ 4 Try.func50 #[.agg #[.string ae, .slice am ac.length an, .slice ar ab.length ao], .int .i64 4] ?_; refine (impl_treeOk.calls k ae _ _ ac _ _ ab 4 true _ (z_25 du.out HB.out) eb.out (z_25 dk.out HB.out) ef.out A2.out).mono ?_; rintro e w27 ⟨rfl, hb⟩; refine ⟨_, rfl, ?_⟩; replace ch := bb ch hb; replace HB := ak (below_step (z_5 HB.out jd.out) hb); (try clear hb); (try clear hb2); (try clear hk); (try clear hi); have b4q := bc ch.out 0; have b4r := bc ch.out 1; have b4s := bc ch.out 2; have b4t := blk_frozen ch.out 0; have b4u := blk_frozen ch.out 1; have b4v := blk_frozen ch.out 2) | (go_at_call 10; refine (impl_Segs.calls k ae _ _ ac _ _ ab we _ (z_25 du.out HB.out) eb.out (z_25 dk.out HB.out) ef.out A4.out).mono ?_; rintro e w29 ⟨amg, rfl, aq, hb⟩; (try clear A4); have mb := ak (Kd.R_lower aq (below_size (z_5 HB.out jd.out))); replace ch := bb ch hb; replace HB := ak (below_step (z_5 HB.out jd.out) hb); (try clear hb); (try clear hb2); (try clear hk); (try clear hi); (try clear aq); obtain ⟨atn, ato, ahm⟩ := Kd.R_slice mb.out; subst ahm; have b4w := bc ch.out 0; have b4x := bc ch.out 1; have b4y := bc ch.out 2; have b4z := blk_frozen ch.out 0; have b5a := blk_frozen ch.out 1; have b5b := blk_frozen ch.out 2) | (go_at_call 10; refine (impl_Segs.calls k ae _ _ ac _ _ ab a0v _ (z_25 du.out HB.out) eb.out (z_25 dk.out HB.out) ef.out A6.out).mono ?_; rintro e w32 ⟨atm, rfl, aq, hb⟩; (try clear A6); have ow := ak (Kd.R_lower (Kd.R_new' aq (Kd.R_lt (z_7 mb.out))) (below_size (z_5 HB.out jd.out))); replace mb := ak (Kd.R_elder' (z_7 mb.out) (Kd.R_base aq) hb); replace ch := bb ch hb; replace HB := ak (below_step (z_5 HB.out jd.out) hb); (try clear hb); (try clear hb2); (try clear hk); (try clear hi); (try clear aq); obtain ⟨atp, atq, ahn⟩ := Kd.R_slice ow.out; subst ahn) | (go_at_call 51; refine (impl_unlike.calls _ _ a0v false _ (z_18 ow.out) ((Kd.R_reads' ow.out).2.1) A7.out).mono ?_; rintro e w34 ⟨rfl, hb⟩; replace mb := rb mb hb; replace ow := rb ow hb; replace ch := bb ch hb; replace HB := ak (below_step (z_5 HB.out jd.out) hb); (try clear hb); (try clear hb2); (try clear hk); (try clear hi)))
    go_ret; exact ⟨z_17, z_5 HB.out jd.out⟩
  ·rw [if_neg c5] at H; have kz := decide_eq_false c5; have ahd : decide (we.length ≤ 12) = false := decide_eq_false (by omega); clear c5; obtain rfl := Option.some.inj H
   go_enter Try.func28, Try.ntmps28
   go_wp2_with (first | ((with_reducible refine gate_dst (N := 1) rfl ?_); (try (refine gate_guard (by rfl) ?_; dsimp only)); refine box_event ?hg (N := 1) ?hd (cs := #[.string ae, .slice am ac.length an, .slice ar ab.length ao]) (t := 27) ?hr ?_; (case hd => rfl); (case hg => rfl); (case hr => first | (go_simp; done) | (go_simp; rfl)); intro ue hg w35 hbox hb; have ch := ak hbox; have ahe := ak ((z_3 HB.out : w.heap.size ≤ ue)); have jd := ak ((z_3 HB.out : w.heap.size ≤ ue)); replace HB := ak (below_step (z_4 HB.out) hb); clear hb hbox hg; have atr := bc ch.out 0; have ats := bc ch.out 1; have att := bc ch.out 2; have atu := blk_frozen ch.out 0; have atv := blk_frozen ch.out 1; have atw := blk_frozen ch.out 2) | ((with_reducible refine gate_callee (f := 50) rfl ?_); refine gl_ 4 Try.func50 #[.agg #[.string ae, .slice am ac.length an, .slice ar ab.length ao], .int .i64 4] ?_; refine (impl_treeOk.calls k ae _ _ ac _ _ ab 4 true _ (z_25 du.out HB.out) eb.out (z_25 dk.out HB.out) ef.out A2.out).mono ?_; rintro e w37 ⟨rfl, hb⟩; refine ⟨_, rfl, ?_⟩; replace ch := bb ch hb; replace HB := ak (below_step (z_5 HB.out jd.out) hb); (try clear hb); (try clear hb2); (try clear hk); (try clear hi); have at2 := bc ch.out 0; have at3 := bc ch.out 1; have at4 := bc ch.out 2; have at5 := blk_frozen ch.out 0; have at6 := blk_frozen ch.out 1; have at7 := blk_frozen ch.out 2) | (go_at_call 10; refine (impl_Segs.calls k ae _ _ ac _ _ ab we _ (z_25 du.out HB.out) eb.out (z_25 dk.out HB.out) ef.out A4.out).mono ?_; rintro e w39 ⟨amg, rfl, aq, hb⟩; have mb := ak (Kd.R_lower aq (below_size (z_5 HB.out jd.out))); replace ch := bb ch hb; replace HB := ak (below_step (z_5 HB.out jd.out) hb); (try clear hb); (try clear hb2); (try clear hk); (try clear hi); (try clear aq); obtain ⟨a3d, a3e, aeq⟩ := Kd.R_slice mb.out; subst aeq))
   go_ret; exact ⟨z_17, z_5 HB.out jd.out⟩
 ·replace c3 := Bool.eq_false_iff.mpr c3; subst c3; rw [if_neg (show ¬ (false = true) by decide)] at H; obtain rfl := Option.some.inj H
  go_enter Try.func28, Try.ntmps28
  go_wp2_with (first | ((with_reducible refine gate_dst (N := 1) rfl ?_); (try (refine gate_guard (by rfl) ?_; dsimp only)); refine box_event ?hg (N := 1) ?hd (cs := #[.string ae, .slice am ac.length an, .slice ar ab.length ao]) (t := 27) ?hr ?_; (case hd => rfl); (case hg => rfl); (case hr => first | (go_simp; done) | (go_simp; rfl)); intro ue hg w41 hbox hb; have ch := ak hbox; have ahe := ak ((z_3 HB.out : w.heap.size ≤ ue)); have jd := ak ((z_3 HB.out : w.heap.size ≤ ue)); replace HB := ak (below_step (z_4 HB.out) hb); clear hb hbox hg; have aho := bc ch.out 0; have ahp := bc ch.out 1; have ahq := bc ch.out 2; have ahr := blk_frozen ch.out 0; have ahs := blk_frozen ch.out 1; have aht := blk_frozen ch.out 2) | ((with_reducible refine gate_callee (f := 50) rfl ?_); refine gl_ 4 Try.func50 #[.agg #[.string ae, .slice am ac.length an, .slice ar ab.length ao], .int .i64 4] ?_; refine (impl_treeOk.calls k ae _ _ ac _ _ ab 4 false _ (z_25 du.out HB.out) eb.out (z_25 dk.out HB.out) ef.out A2.out).mono ?_; rintro e w43 ⟨rfl, hb⟩; refine ⟨_, rfl, ?_⟩; replace ch := bb ch hb; replace HB := ak (below_step (z_5 HB.out jd.out) hb); (try clear hb); (try clear hb2); (try clear hk); (try clear hi)))
  go_ret; exact ⟨z_17, z_5 HB.out jd.out⟩
def impl_WordsIn.l0 : Nat → List ByteArray → List Int → Int → List ByteArray → Int → Int → Option (Int)
 | 0, _, _, _, _, _, _ => none
 | k + 1, x1, x2, x7, gi, mm, x14 => if x14 < mm then (if 0 ≤ x14 then (if x14 < (gi.length : Int) then ((impl_placeIn.f k x1 (rdOf ByteArray.empty gi x14)).bind fun oi => ((impl_within.f oi 0 (wrap64 ((x2.length : Int) - 1))).bind fun ahu => (if ahu = true then (if 0 ≤ oi then (if oi < (x2.length : Int) then (impl_WordsIn.l0 k x1 x2 (wrap64 (x7 + (rd x2 oi))) gi mm (wrap64 (x14 + 1))) else (none)) else (none)) else (impl_WordsIn.l0 k x1 x2 x7 gi mm (wrap64 (x14 + 1)))))) else (none)) else (none)) else (some x7)
def impl_WordsIn.f (k : Nat) (ae : ByteArray) (ac : List ByteArray) (ab : List (S27)) (l1 : List ByteArray) (l2 : List Int) : Option (Int) := impl_WordsIn.l0 k l1 l2 0 ac (ac.length : Int) 0
theorem impl_WordsIn.mono_l : ∀ k, (∀ y0 y1 y2 y3 y4 y5, LeO (impl_WordsIn.l0 k y0 y1 y2 y3 y4 y5) (impl_WordsIn.l0 (k + 1) y0 y1 y2 y3 y4 y5))
 | 0 => fun _ _ _ _ _ _ r h => by simp [impl_WordsIn.l0] at h
 | k + 1 => by
  have ih0 := impl_WordsIn.mono_l k
  ·intro y0 y1 y2 y3 y4 y5; unfold impl_WordsIn.l0
   repeat' first
   | (with_reducible exact ih0 _ _ _ _ _ _)
   | (with_reducible exact impl_placeIn.mono _ _ _)
   | (with_reducible exact LeO.refl _)
   | (with_reducible exact LeO.none _)
   | (with_reducible refine LeO.ite ?_ ?_)
   | (with_reducible refine LeO.bind ?_ (fun _ => ?_))
   | exact ih0 _ _ _ _ _ _
   | exact impl_placeIn.mono _ _ _
   | exact LeO.none _
   | refine LeO.ite ?_ ?_
   | refine LeO.bind ?_ (fun _ => ?_)
theorem impl_WordsIn.mono : ∀ a0 a1 a2 a3 a4 k, LeO (impl_WordsIn.f k a0 a1 a2 a3 a4) (impl_WordsIn.f (k + 1) a0 a1 a2 a3 a4) := by
 intro a0 a1 a2 a3 a4 k; have ih0 := impl_WordsIn.mono_l k; unfold impl_WordsIn.f
 repeat' first
  | (with_reducible exact ih0 _ _ _ _ _ _)
  | (with_reducible exact impl_placeIn.mono _ _ _)
  | (with_reducible exact LeO.refl _)
  | (with_reducible exact LeO.none _)
  | (with_reducible refine LeO.ite ?_ ?_)
  | (with_reducible refine LeO.bind ?_ (fun _ => ?_))
  | exact ih0 _ _ _ _ _ _
  | exact impl_placeIn.mono _ _ _
  | exact LeO.none _
  | refine LeO.ite ?_ ?_
  | refine LeO.bind ?_ (fun _ => ?_)
set_option maxHeartbeats 8000000 in
set_option maxRecDepth 100000 in
theorem impl_WordsIn.calls (k : Nat) (ae : ByteArray) (am : Option Addr) (an : Nat) (ac : List ByteArray) (ar : Option Addr) (ao : Nat) (ab : List (S27)) (A1 : Option Addr) (c1 : Nat) (l1 : List ByteArray) (A2 : Option Addr) (c2 : Nat) (l2 : List Int) (r : Int) (w : World) (hr0_1 : Kd.C Kd.string w am ac.length ac) (hc0_1 : ac.length ≤ an) (hr0_2 : Kd.C k27 w ar ab.length ab) (hc0_2 : ab.length ≤ ao) (hr1 : Kd.C Kd.string w A1 l1.length l1) (hc1 : l1.length ≤ c1) (hr2 : Kd.C (Kd.int .i64) w A2 l2.length l2) (hc2 : l2.length ≤ c2) (h : impl_WordsIn.f k ae ac ab l1 l2 = some r) :
 Calls Try.prog 22 #[.agg #[.string ae, .slice am ac.length an, .slice ar ab.length ao], .slice A1 l1.length c1, .slice A2 l2.length c2] w fun e w' => e = .returned (.int .i64 r) ∧ Below w.heap.size w w' := by
 have hu27 := Try.underlying27; have du := Aside0.mk hr0_1; have eb := Aside0.mk hc0_1; clear hr0_1 hc0_1; have dk := Aside0.mk hr0_2; have ef := Aside0.mk hc0_2; clear hr0_2 hc0_2; have el := Aside0.mk hr1; have ex := Aside0.mk hc1; clear hr1 hc1; have ff := Aside0.mk hr2; have gb := Aside0.mk hc2; clear hr2 hc2; have HB := Aside0.mk (Below.refl w.heap.size w); have H : (impl_WordsIn.l0 k l1 l2 0 ac (ac.length : Int) 0) = some r := h; clear h; have H' := Aside0.mk H; clear H
 go_enter Try.func22, Try.ntmps22
 go_wp2_with (first | ((with_reducible refine gate_dst (N := 3) rfl ?_); refine box_event ?hg (N := 3) ?hd (cs := #[.string ae, .slice am ac.length an, .slice ar ab.length ao]) (t := 27) ?hr ?_; (case hd => rfl); (case hg => rfl); (case hr => first | (go_simp; done) | (go_simp; rfl)); intro ahv hg w4 hbox hb; have wg := ak hbox; have b5c := ak ((z_3 HB.out : w.heap.size ≤ ahv)); have aer := ak ((z_3 HB.out : w.heap.size ≤ ahv)); replace HB := ak (below_step (z_4 HB.out) hb); clear hb hbox hg; have xx := bc wg.out 0; have xy := bc wg.out 1; have xz := bc wg.out 2; have a6h := blk_frozen wg.out 0; have a3f := blk_frozen wg.out 1; have a3g := blk_frozen wg.out 2))
 go_loopg [7, 14] k (fun kq v7 v14 w' => ∃ (fx : Int) (na : Int), v7 = .int .i64 fx ∧ v14 = .int .i64 na ∧ Aside0 (impl_WordsIn.l0 kq l1 l2 fx ac (ac.length : Int) na = some r) ∧ Aside0 (kq ≤ k) ∧ Aside0 (w'.heap[ahv]? = some (.cells #[.string ae, (.slice am ac.length an), (.slice ar ab.length ao)] 27 (0, 0))) ∧ Aside0 (Below w.heap.size w w'))
 case atStart => exact ⟨(0), (0), z_6, z_6, H', ⟨Nat.le_refl _⟩, ⟨z_8 wg.out⟩, ⟨z_5 HB.out aer.out⟩⟩
 case round =>
  clear H'; (try clear xx); (try clear xy); (try clear xz); (try clear a6h); (try clear a3f); (try clear a3g); obtain ⟨fx, na, rfl, rfl, HA, HK1, wg, HB⟩ := hrel
  cases gk with
  | zero => exact absurd HA.out (by simp [impl_WordsIn.l0])
  | succ k1 =>
   have H := HA.out; clear HA; simp only [impl_WordsIn.l0] at H
   by_cases c6 : na < (ac.length : Int)
   ·rw [if_pos c6] at H; have nw := decide_eq_true c6; clear c6
    by_cases c7 : 0 ≤ na
    ·rw [if_pos c7] at H; have pk := decide_eq_true c7; clear c7
     by_cases c8 : na < (ac.length : Int)
     ·rw [if_pos c8] at H; have ky := decide_eq_true c8; clear c8; replace H := Option.bind_eq_some_iff.mp H; obtain ⟨oi, jn, H⟩ := H; have A9 := Aside0.mk jn; clear jn; replace H := Option.bind_eq_some_iff.mp H; obtain ⟨ahu, ki, H⟩ := H; have lx := Aside0.mk ki; clear ki
      by_cases dw : ahu = true
      ·subst dw; rw [if_pos rfl] at H
       by_cases jy : 0 ≤ oi
       ·rw [if_pos jy] at H; have a9d := decide_eq_true jy; clear jy
        by_cases ga : oi < (l2.length : Int)
        ·rw [if_pos ga] at H; have a2o := decide_eq_true ga; clear ga; have H' := Aside0.mk H; clear H; have a3h : 0 ≤ (na : Int) := of_decide_eq_true z_9; have a3i : na < (ac.length : Int) := of_decide_eq_true z_9; obtain ⟨atx, ahw, a3j⟩ := Kd.at_string du.out na a3h a3i; cases ahw; replace a3j := (HB.out.cell (World.block_lt_of_cell? w _ a3j)).trans a3j; replace a3h := eq_true a3h; replace a3i := eq_true a3i; go_wp2_with (first | ((with_reducible refine gate_callee (f := 32) rfl ?_); refine gl_ 20 Try.func32 #[.slice A1 l1.length c1, .string (rdOf ByteArray.empty ac na)] ?_; refine (impl_placeIn.calls k1 _ _ l1 (rdOf ByteArray.empty ac na) oi _ (z_25 el.out HB.out) ex.out A9.out).mono ?_; rintro e w' ⟨rfl, ⟨nd, rfl⟩⟩; refine ⟨_, rfl, ?_⟩) | ((with_reducible refine gate_callee (f := 29) rfl ?_); refine gl_ 25 Try.func29 #[.int .i64 oi, .int .i64 0, .int .i64 (wrap64 ((l2.length : Int) - 1))] ?_; (with_reducible refine (impl_within.calls oi 0 (wrap64 ((l2.length : Int) - 1)) true _ lx.out).mono ?_); rintro e w' ⟨rfl, ⟨nd, rfl⟩⟩; refine ⟨_, rfl, ?_⟩; have ahx : 0 ≤ (oi : Int) := of_decide_eq_true z_9; have ahy : oi < (l2.length : Int) := of_decide_eq_true z_9; obtain ⟨b5d, aty, ahz⟩ := Kd.at_int ff.out oi ahx ahy; cases aty; replace ahz := (HB.out.cell (World.block_lt_of_cell? w _ ahz)).trans ahz; replace ahx := eq_true ahx; replace ahy := eq_true ahy))
         go_roundg k1
         case measure => have := HK1.out; omega
         case rel => exact ⟨(wrap64 (fx + (rd l2 oi))), (wrap64 (na + 1)), z_6, z_6, H', ⟨by have := HK1.out; omega⟩, ⟨z_8 wg.out⟩, ⟨z_5 HB.out aer.out⟩⟩
        ·rw [if_neg ga] at H; exact absurd H (by simp)
       ·rw [if_neg jy] at H; exact absurd H (by simp)
      ·replace dw := Bool.eq_false_iff.mpr dw; subst dw; rw [if_neg (show ¬ (false = true) by decide)] at H; have H' := Aside0.mk H; clear H; have a3h : 0 ≤ (na : Int) := of_decide_eq_true z_9; have a3i : na < (ac.length : Int) := of_decide_eq_true z_9; obtain ⟨atx, ahw, a3j⟩ := Kd.at_string du.out na a3h a3i; cases ahw; replace a3j := (HB.out.cell (World.block_lt_of_cell? w _ a3j)).trans a3j; replace a3h := eq_true a3h; replace a3i := eq_true a3i; go_wp2_with (first | ((with_reducible refine gate_callee (f := 32) rfl ?_); refine gl_ 20 Try.func32 #[.slice A1 l1.length c1, .string (rdOf ByteArray.empty ac na)] ?_; refine (impl_placeIn.calls k1 _ _ l1 (rdOf ByteArray.empty ac na) oi _ (z_25 el.out HB.out) ex.out A9.out).mono ?_; rintro e w' ⟨rfl, ⟨nd, rfl⟩⟩; refine ⟨_, rfl, ?_⟩) | ((with_reducible refine gate_callee (f := 29) rfl ?_); refine gl_ 25 Try.func29 #[.int .i64 oi, .int .i64 0, .int .i64 (wrap64 ((l2.length : Int) - 1))] ?_; (with_reducible refine (impl_within.calls oi 0 (wrap64 ((l2.length : Int) - 1)) false _ lx.out).mono ?_); rintro e w' ⟨rfl, ⟨nd, rfl⟩⟩; refine ⟨_, rfl, ?_⟩))
       go_roundg k1
       case measure => have := HK1.out; omega
       case rel => exact ⟨(fx), (wrap64 (na + 1)), z_6, z_6, H', ⟨by have := HK1.out; omega⟩, ⟨z_8 wg.out⟩, ⟨z_5 HB.out aer.out⟩⟩
     ·rw [if_neg c8] at H; exact absurd H (by simp)
    ·rw [if_neg c7] at H; exact absurd H (by simp)
   ·rw [if_neg c6] at H; have nw := decide_eq_false c6; clear c6; obtain rfl := Option.some.inj H; go_wp2; go_ret; exact ⟨z_17, z_5 HB.out aer.out⟩
mutual
def impl_spans.l0 : Nat → List ByteArray → List Int → Int → List (S38) → List (S27) → Int → Int → Option ((List (S38)))
 | 0, _, _, _, _, _, _, _ => none
 | k + 1, x1, x2, x9, fp, x27, x28, x29 => if x29 < x28 then (if 0 ≤ x29 then (if x29 < (x27.length : Int) then ((impl_spans.f k ((rd_T27 x27 x29).f0) ((rd_T27 x27 x29).f1) ((rd_T27 x27 x29).f2) x1 x2 x9).bind fun a0x => (if fp.length + a0x.length < 4398046511104 then (impl_spans.l0 k x1 x2 x9 (fp ++ a0x) x27 x28 (wrap64 (x29 + 1))) else (none))) else (none)) else (none)) else (some fp)
def impl_spans.f : Nat → ByteArray → List ByteArray → List (S27) → List ByteArray → List Int → Int → Option ((List (S38)))
 | 0, _, _, _, _, _, _ => none
 | k + 1, ae, ac, ab, l1, l2, a3 => (impl_WordsIn.f k ae ac ab l1 l2).bind fun nc => (impl_spans.l0 k l1 l2 (wrap64 (a3 + (wrap64 (2 * nc)))) (([(⟨ae, a3, wrap64 (a3 + (wrap64 (2 * nc)))⟩ : S38)] : List (S38))) ab (ab.length : Int) 0)
end
theorem impl_spans.mono_l : ∀ k, (∀ y0 y1 y2 y3 y4 y5, LeO (impl_spans.f k y0 y1 y2 y3 y4 y5) (impl_spans.f (k + 1) y0 y1 y2 y3 y4 y5)) ∧ (∀ y0 y1 y2 y3 y4 y5 y6, LeO (impl_spans.l0 k y0 y1 y2 y3 y4 y5 y6) (impl_spans.l0 (k + 1) y0 y1 y2 y3 y4 y5 y6))
 | 0 => ⟨fun _ _ _ _ _ _ r h => by simp [impl_spans.f] at h, fun _ _ _ _ _ _ _ r h => by simp [impl_spans.l0] at h⟩
 | k + 1 => by
  obtain ⟨ih0, ih1⟩ := impl_spans.mono_l k; refine ⟨?_, ?_⟩
  all_goals
   intros
   first | unfold impl_spans.f | unfold impl_spans.l0
   repeat' first
   | (with_reducible exact ih0 _ _ _ _ _ _)
   | (with_reducible exact ih1 _ _ _ _ _ _ _)
   | (with_reducible exact impl_WordsIn.mono _ _ _ _ _ _)
   | (with_reducible exact LeO.refl _)
   | (with_reducible exact LeO.none _)
   | (with_reducible refine LeO.ite ?_ ?_)
   | (with_reducible refine LeO.bind ?_ (fun _ => ?_))
   | exact ih0 _ _ _ _ _ _
   | exact ih1 _ _ _ _ _ _ _
   | exact impl_WordsIn.mono _ _ _ _ _ _
   | exact LeO.none _
   | refine LeO.ite ?_ ?_
   | refine LeO.bind ?_ (fun _ => ?_)
theorem impl_spans.mono : ∀ a0 a1 a2 a3 a4 a5 k, LeO (impl_spans.f k a0 a1 a2 a3 a4 a5) (impl_spans.f (k + 1) a0 a1 a2 a3 a4 a5) := by
 intro a0 a1 a2 a3 a4 a5 k; obtain ⟨ih0, ih1⟩ := impl_spans.mono_l k; exact ih0 a0 a1 a2 a3 a4 a5
set_option maxHeartbeats 8000000 in
set_option maxRecDepth 100000 in
theorem impl_spans.calls (k : Nat) : ∀ (ae : ByteArray) (am : Option Addr) (an : Nat) (ac : List ByteArray) (ar : Option Addr) (ao : Nat) (ab : List (S27)) (A1 : Option Addr) (c1 : Nat) (l1 : List ByteArray) (A2 : Option Addr) (c2 : Nat) (l2 : List Int) (a3 : Int) (r : List (S38)) (w : World) (hr0_1 : Kd.C Kd.string w am ac.length ac) (hc0_1 : ac.length ≤ an) (hr0_2 : Kd.C k27 w ar ab.length ab) (hc0_2 : ab.length ≤ ao) (hr1 : Kd.C Kd.string w A1 l1.length l1) (hc1 : l1.length ≤ c1) (hr2 : Kd.C (Kd.int .i64) w A2 l2.length l2) (hc2 : l2.length ≤ c2) (h : impl_spans.f k ae ac ab l1 l2 a3 = some r),
 Calls Try.prog 30 #[.agg #[.string ae, .slice am ac.length an, .slice ar ab.length ao], .slice A1 l1.length c1, .slice A2 l2.length c2, .int .i64 a3] w fun e w' => ∃ v0_ : Value, e = .returned (v0_) ∧ Kd.R k38 38 w' w.heap.size (fun _ => True) v0_ r ∧ Below w.heap.size w w' := by
 induction k using Nat.strongRecOn with
 | _ k ih =>
 intro ae am an ac ar ao ab A1 c1 l1 A2 c2 l2 a3 r w hr0_1 hc0_1 hr0_2 hc0_2 hr1 hc1 hr2 hc2 h
 cases k with
 | zero => exact absurd h (by simp [impl_spans.f])
 | succ k =>
 simp only [impl_spans.f] at h; have hu27 := Try.underlying27; have hu38 := Try.underlying38; have du := Aside0.mk hr0_1; have eb := Aside0.mk hc0_1; clear hr0_1 hc0_1; have dk := Aside0.mk hr0_2; have ef := Aside0.mk hc0_2; clear hr0_2 hc0_2; have el := Aside0.mk hr1; have ex := Aside0.mk hc1; clear hr1 hc1; have ff := Aside0.mk hr2; have gb := Aside0.mk hc2; clear hr2 hc2; have HB := Aside0.mk (Below.refl w.heap.size w); have H : ((impl_WordsIn.f k ae ac ab l1 l2).bind fun nc => (impl_spans.l0 k l1 l2 (wrap64 (a3 + (wrap64 (2 * nc)))) (([(⟨ae, a3, wrap64 (a3 + (wrap64 (2 * nc)))⟩ : S38)] : List (S38))) ab (ab.length : Int) 0)) = some r := h; clear h; replace H := Option.bind_eq_some_iff.mp H; obtain ⟨nc, fj, H⟩ := H; have A5 := Aside0.mk fj; clear fj; obtain ⟨amj, aa9⟩ : ∃ y_ : List (S38), y_ = (([(⟨ae, a3, wrap64 (a3 + (wrap64 (2 * nc)))⟩ : S38)] : List (S38))) := ⟨_, rfl⟩; replace H : (impl_spans.l0 k l1 l2 (wrap64 (a3 + (wrap64 (2 * nc)))) amj ab (ab.length : Int) 0) = some r := by first | (rw [aa9]; with_reducible exact H) | (have H2_ := (Option.bind_some _ _).symm.trans H; rw [aa9]; with_reducible exact H2_) | (have H2_ := (Option.bind_some _ _).symm.trans H; with_reducible exact H2_) | with_reducible exact H | (rw [aa9]; exact H) | exact H
 have amk := Aside0.mk aa9; clear aa9; have H' := Aside0.mk H; clear H
 go_enter Try.func30, Try.ntmps30
 go_wp2_with (first | ((with_reducible refine gate_dst (N := 4) rfl ?_); refine box_event ?hg (N := 4) ?hd (cs := #[.string ae, .slice am ac.length an, .slice ar ab.length ao]) (t := 27) ?hr ?_; (case hd => rfl); (case hg => rfl); (case hr => first | (go_simp; done) | (go_simp; rfl)); intro ya hg w6 hbox hb; have gj := ak hbox; have b5e := ak ((z_3 HB.out : w.heap.size ≤ ya)); have oj := ak ((z_3 HB.out : w.heap.size ≤ ya)); replace HB := ak (below_step (z_4 HB.out) hb); clear hb hbox hg; have a6i := bc gj.out 0; have a6j := bc gj.out 1; have a6k := bc gj.out 2; have aes := blk_frozen gj.out 0; have aet := blk_frozen gj.out 1; have aeu := blk_frozen gj.out 2) | ((with_reducible refine gate_callee (f := 22) rfl ?_); refine gl_ 17 Try.func22 #[.agg #[.string ae, .slice am ac.length an, .slice ar ab.length ao], .slice A1 l1.length c1, .slice A2 l2.length c2] ?_; refine (impl_WordsIn.calls k ae _ _ ac _ _ ab _ _ l1 _ _ l2 nc _ (z_25 du.out HB.out) eb.out (z_25 dk.out HB.out) ef.out (z_25 el.out HB.out) ex.out (z_25 ff.out HB.out) gb.out A5.out).mono ?_; rintro e w8 ⟨rfl, hb⟩; refine ⟨_, rfl, ?_⟩; replace gj := bb gj hb; replace HB := ak (below_step (z_5 HB.out oj.out) hb); (try clear hb); (try clear hb2); (try clear hk); (try clear hi); have tp := bc gj.out 0; have tq := bc gj.out 1; have tr := bc gj.out 2; have ts := blk_frozen gj.out 0; have tt := blk_frozen gj.out 1; have tu := blk_frozen gj.out 2) | ((with_reducible refine gate_dst (N := 25) rfl ?_); refine Kd.R_lit k38 _ 38 ?hg (N := 25) ?hd (xs := ([(⟨ae, a3, wrap64 (a3 + (wrap64 (2 * nc)))⟩ : S38)] : List (S38))) (inner := [.string ae, .int .i64 a3, .int .i64 (wrap64 (a3 + (wrap64 (2 * nc))))]) (ok := fun _ => True) (okp := fun _ => True) ?hr ?hp (fun _ hk => hk) trivial (Below.refl _ _) (Nat.le_refl _) (by simp) ?_; (case hd => rfl); (case hg => rfl); (case hr => first | (go_simp; done) | (go_simp; rfl)); (case hp => exact (Reps.c3 (show Kd.M k38 _ _ _ (⟨ae, a3, wrap64 (a3 + (wrap64 (2 * nc)))⟩ : S38) [.string ae, .int .i64 a3, .int .i64 (wrap64 (a3 + (wrap64 (2 * nc))))] from (k38_mkM _ _ _ (⟨ae, a3, wrap64 (a3 + (wrap64 (2 * nc)))⟩ : S38) )) (Reps.none _ _))); intro b5f qf uf hb hg_ hnew_; clear hg_ hnew_; (first | rw [← amk.out] at uf | (simp only [Int.reduceToNat] at uf; rw [← amk.out] at uf)); have atz := ak (Kd.R_lower uf (below_size (z_5 HB.out oj.out))); replace gj := bb gj hb; replace HB := ak (below_step (z_5 HB.out oj.out) hb); clear hb uf; have nx := bc gj.out 0; have nz := bc gj.out 1; have oa := bc gj.out 2; have ob := blk_frozen gj.out 0; have oc := blk_frozen gj.out 1; have od := blk_frozen gj.out 2))
 go_loopg [10, 29] k (fun kq v10 v29 w' => ∃ (eu : List (S38)) (gr : Int), v29 = .int .i64 gr ∧ Aside0 (impl_spans.l0 kq l1 l2 (wrap64 (a3 + (wrap64 (2 * nc)))) eu ab (ab.length : Int) gr = some r) ∧ Aside0 (kq ≤ k) ∧ Aside0 (Kd.R k38 38 w' w.heap.size (fun _ => True) v10 eu) ∧ Aside0 (w'.heap[ya]? = some (.cells #[.string ae, (.slice am ac.length an), (.slice ar ab.length ao)] 27 (0, 0))) ∧ Aside0 (Below w.heap.size w w'))
 case atStart => exact ⟨(amj), (0), z_6, H', ⟨Nat.le_refl _⟩, ⟨z_7 atz.out⟩, ⟨z_8 gj.out⟩, ⟨z_5 HB.out oj.out⟩⟩
 case round =>
  clear H'; (try clear c1); (try clear c2); (try clear nx); (try clear nz); (try clear oa); (try clear a6i); (try clear a6j); (try clear a6k); (try clear tp); (try clear tq); (try clear tr); (try clear ob); (try clear oc); (try clear od); (try clear aes); (try clear aet); (try clear aeu); (try clear ts); (try clear tt); (try clear tu); obtain ⟨eu, gr, rfl, HA, HK1, ik, gj, HB⟩ := hrel
  cases gk with
  | zero => exact absurd HA.out (by simp [impl_spans.l0])
  | succ k1 =>
   have H := HA.out; clear HA; simp only [impl_spans.l0] at H
   by_cases ga : gr < (ab.length : Int)
   ·rw [if_pos ga] at H; have a2o := decide_eq_true ga; clear ga
    by_cases la : 0 ≤ gr
    ·rw [if_pos la] at H; have a0y := decide_eq_true la; clear la
     by_cases lb : gr < (ab.length : Int)
     ·rw [if_pos lb] at H; have ai0 := decide_eq_true lb; clear lb; replace H := Option.bind_eq_some_iff.mp H; obtain ⟨a0x, aml, H⟩ := H; have A16 := Aside0.mk aml; clear aml
      by_cases iw : eu.length + a0x.length < 4398046511104
      ·rw [if_pos iw] at H; have au0 := Aside0.mk iw; clear iw; obtain ⟨amm, aaa⟩ : ∃ y_ : List (S38), y_ = (eu ++ a0x) := ⟨_, rfl⟩; replace H : (impl_spans.l0 k1 l1 l2 (wrap64 (a3 + (wrap64 (2 * nc)))) amm ab (ab.length : Int) (wrap64 (gr + 1))) = some r := by first | (rw [aaa]; with_reducible exact H) | (have H2_ := (Option.bind_some _ _).symm.trans H; rw [aaa]; with_reducible exact H2_) | (have H2_ := (Option.bind_some _ _).symm.trans H; with_reducible exact H2_) | with_reducible exact H | (rw [aaa]; exact H) | exact H
       have au1 := Aside0.mk aaa; clear aaa; have H' := Aside0.mk H; clear H; have ai1 : 0 ≤ (gr : Int) := of_decide_eq_true z_9; have ai2 : gr < (ab.length : Int) := of_decide_eq_true z_9; obtain ⟨aev, a6l, a6m, aab, aac, au2, ai3, ai4, ai5, amn, amo, amp, amq⟩ := at_T27 dk.out gr ai1 ai2; cases au2; replace ai3 := (HB.out.cell (World.block_lt_of_cell? w _ ai3)).trans ai3; replace ai4 := (HB.out.cell (World.block_lt_of_cell? w _ ai4)).trans ai4; replace ai5 := (HB.out.cell (World.block_lt_of_cell? w _ ai5)).trans ai5; have au3 := Aside0.mk amo; have au4 := Aside0.mk amn; clear amo amn; have au5 := Aside0.mk amq; have au6 := Aside0.mk amp; clear amq amp; replace ai1 := eq_true ai1; replace ai2 := eq_true ai2; go_wp2_with (first | ((with_reducible refine gate_dst (N := 12) rfl ?_); refine box_event ?hg (N := 12) ?hd (cs := #[.string (⟨#[]⟩ : ByteArray), .slice none 0 0, .slice none 0 0]) (t := 27) ?hr ?_; (case hd => rfl); (case hg => rfl); (case hr => first | (go_simp; done) | (go_simp; rfl)); intro sn hg w18 hbox hb; replace ik := rb ik hb; have rl := ak hbox; have b5g := ak ((z_10 HB.out oj.out : w.heap.size ≤ sn)); have yc := ak ((z_10 HB.out oj.out : w.heap.size ≤ sn)); replace HB := ak (below_step (z_5 HB.out oj.out) hb); have aew := ak ((by rw [hg]; exact Nat.ne_of_lt (blk_lt (g := ya) (o := .cells #[.string ae, .slice am ac.length an, .slice (some aev) ab.length ao] 27 (0, 0)) (z_8 gj.out)) : ya ≠ sn)); have au7 := ak ((by rw [hg]; exact Nat.ne_of_gt (blk_lt (g := ya) (o := .cells #[.string ae, .slice am ac.length an, .slice (some aev) ab.length ao] 27 (0, 0)) (z_8 gj.out)) : sn ≠ ya)); replace gj := bb gj hb; clear hb hbox hg; have b5h := au7.out; have b5i := aew.out; have au8 := bc rl.out 0; have au9 := bc rl.out 1; have aua := bc rl.out 2; have aub := blk_frozen rl.out 0; have auc := blk_frozen rl.out 1; have aud := blk_frozen rl.out 2) | ((with_reducible refine gate_callee (f := 30) rfl ?_); refine gl_ 38 Try.func30 #[.agg #[.string ((rd_T27 ab gr).f0), .slice a6l ((rd_T27 ab gr).f1).length a6m, .slice aab ((rd_T27 ab gr).f2).length aac], .slice A1 l1.length c1, .slice A2 l2.length c2, .int .i64 (wrap64 (a3 + (wrap64 (2 * nc))))] ?_; refine (ih k1 (by have := HK1.out; omega) ((rd_T27 ab gr).f0) _ _ ((rd_T27 ab gr).f1) _ _ ((rd_T27 ab gr).f2) _ _ l1 _ _ l2 (wrap64 (a3 + (wrap64 (2 * nc)))) a0x _ (Kd.C_below au3.out (z_11 HB.out oj.out yc.out)) au4.out (Kd.C_below au5.out (z_11 HB.out oj.out yc.out)) au6.out (Kd.C_below el.out (z_11 HB.out oj.out yc.out)) ex.out (Kd.C_below ff.out (z_11 HB.out oj.out yc.out)) gb.out A16.out).mono ?_; rintro e w21 ⟨b5j, rfl, aq, hb⟩; refine ⟨_, rfl, ?_⟩; have aad := ak (Kd.R_lower (Kd.R_new' aq (Kd.R_lt (z_27 ik.out rl.out))) (below_size (z_11 HB.out oj.out yc.out))); replace ik := ak (Kd.R_elder' (z_27 ik.out rl.out) (Kd.R_base aq) hb); replace gj := ak (blk_below (g := ya) (o := .cells #[.string ae, .slice am ac.length an, .slice (some aev) ab.length ao] 27 (0, 0)) (z_13 aew.out gj.out) hb); replace rl := ak (blk_below (g := sn) (o := .cells #[.string ((rd_T27 ab gr).f0), .slice a6l ((rd_T27 ab gr).f1).length a6m, .slice aab ((rd_T27 ab gr).f2).length aac] 27 (0, 0)) (by (with_reducible repeat (first | refine blk_drewN ?_ _ | refine blk_drew ?_ | refine blk_alloc ?_ _)); refine blk_put (cs := #[.string ((rd_T27 ab gr).f0), .slice a6l ((rd_T27 ab gr).f1).length a6m, .slice none 0 0]) ?_ 2 _ rfl; (with_reducible repeat (first | refine blk_drewN ?_ _ | refine blk_drew ?_ | refine blk_alloc ?_ _)); refine blk_put (cs := #[.string ((rd_T27 ab gr).f0), .slice none 0 0, .slice none 0 0]) ?_ 1 _ rfl; (with_reducible repeat (first | refine blk_drewN ?_ _ | refine blk_drew ?_ | refine blk_alloc ?_ _)); refine blk_put (cs := #[.string (⟨#[]⟩ : ByteArray), .slice none 0 0, .slice none 0 0]) ?_ 0 _ rfl; (with_reducible repeat (first | refine blk_drewN ?_ _ | refine blk_drew ?_ | refine blk_alloc ?_ _)); exact rl.out) hb); replace HB := ak (below_step (z_11 HB.out oj.out yc.out) hb); (try clear hb); (try clear hb2); (try clear hk); (try clear hi); (try clear aq); obtain ⟨amh, ami, ahl⟩ := Kd.R_slice aad.out; subst ahl) | ((with_reducible refine gate_builtin (b := .append) (xs := #[.tmp 33, .tmp 38]) rfl ?_); at_builtin; refine Kd.R_append_rows k38 (w0 := w) w.heap.size rfl (.tmp 33) (.tmp 38) 31 38 (.agg #[(.string ⟨#[]⟩), (.int .i64 0), (.int .i64 0)]) 32 rfl Try.underlying31 info38 rfl (by decide) (by omega) u10 eu a0x _ _ _ (fun k_ => some k_ ≠ (.slice amh a0x.length ami : Value).ownBlock) (fun _ => False) rfl rfl ?aO ?aR (fun _ _ h => h) (fun _ h => h.elim) ?aF ?aB ?aS ?aL ?_; (case aR => exact z_14 aad.out); (case aB => exact z_11 HB.out oj.out yc.out); (case aF => exact (fun k_ hk => Kd.fresh' (Kd.R_lt (z_7 aad.out)) k_ hk)); (case aO => exact z_15 ik.out); (case aS => exact (below_size (z_11 HB.out oj.out yc.out))); (case aL => have := au0.out; omega); intro b5k w22 ho hb hg hat; rw [← au1.out] at ho; replace gj := ak (blk_grown (g := ya) (o := .cells #[.string ae, .slice am ac.length an, .slice (some aev) ab.length ao] 27 (0, 0)) (z_8 gj.out) hg (Kd.R_ne ik.out gj.out (by decide))); replace rl := ak (blk_grown (g := sn) (o := .cells #[.string ((rd_T27 ab gr).f0), .slice a6l ((rd_T27 ab gr).f1).length a6m, .slice aab ((rd_T27 ab gr).f2).length aac] 27 (0, 0)) (z_8 rl.out) hg (Kd.R_ne ik.out rl.out (by decide))); replace aad := ak (Kd.R_after (ok := (fun _ => True)) (z_7 aad.out) hg hat); replace HB := ak hb; have aue := ak ho; clear ik; clear ho hb hg hat))
       go_roundg k1
       case measure => have := HK1.out; omega
       case rel => exact ⟨(amm), (wrap64 (gr + 1)), z_6, H', ⟨by have := HK1.out; omega⟩, ⟨z_16 aue.out⟩, ⟨z_8 gj.out⟩, ⟨z_11 HB.out oj.out yc.out⟩⟩
      ·rw [if_neg iw] at H; exact absurd H (by simp)
     ·rw [if_neg lb] at H; exact absurd H (by simp)
    ·rw [if_neg la] at H; exact absurd H (by simp)
   ·rw [if_neg ga] at H; have a2o := decide_eq_false ga; clear ga; obtain rfl := Option.some.inj H; go_wp2; go_ret; exact ⟨_, z_17, z_7 ik.out, z_5 HB.out oj.out⟩
end Go.Proofs.Ytdphpmejjlgpnaa.PFnTreesBent

