import Derived.Test.YtdphpmejjlgpnaaD0
import Derived.Test.YtdphpmejjlgpnaaD13
import Derived.Test.YtdphpmejjlgpnaaD14
import Derived.Test.YtdphpmejjlgpnaaDZ
set_option linter.unusedVariables false
set_option linter.unusedSimpArgs false
set_option linter.unusedSectionVars false
namespace Go.Proofs.Ytdphpmejjlgpnaa.PFnTreesBent
open Go.RowKit Go.Proofs.YtdphpmejjlgpnaaW.PrintWords Go.Proofs.YtdphpmejjlgpnaaW.PrintLast Go.Proofs.YtdphpmejjlgpnaaW.PrintMore Go.Proofs.Ytdphpmejjlgpnaa.Short
attribute [local go_sem] max2_int min2_int max_two min_two max_three min_three max_four min_four
mutual
def spec_l23Peak.l0 : Nat → List ByteArray → List Int → Int → Int → ByteArray → List ByteArray → List (S27) → Option (Int)
 | 0, _, _, _, _, _, _, _ => none
 | k + 1, x1, x2, x7, x8, akw, akx, a5h => if x8 < (a5h.length : Int) then (if 0 ≤ x8 then ((spec_l23Peak.f k ((rd_T27 a5h x8).f0) ((rd_T27 a5h x8).f1) ((rd_T27 a5h x8).f2) x1 x2).bind fun yy => (if yy > x7 then (spec_l23Peak.l0 k x1 x2 yy (wrap64 (x8 + 1)) akw akx a5h) else (spec_l23Peak.l0 k x1 x2 x7 (wrap64 (x8 + 1)) akw akx a5h))) else (none)) else ((spec_WordsIn.f k akw akx a5h x1 x2).bind fun aky => (some (wrap64 (aky + x7))))
def spec_l23Peak.f : Nat → ByteArray → List ByteArray → List (S27) → List ByteArray → List Int → Option (Int)
 | 0, _, _, _, _, _ => none
 | k + 1, ae, ac, ab, l1, l2 => spec_l23Peak.l0 k l1 l2 0 0 ae ac ab
end
theorem spec_l23Peak.mono_l : ∀ k, (∀ y0 y1 y2 y3 y4, LeO (spec_l23Peak.f k y0 y1 y2 y3 y4) (spec_l23Peak.f (k + 1) y0 y1 y2 y3 y4)) ∧ (∀ y0 y1 y2 y3 y4 y5 y6, LeO (spec_l23Peak.l0 k y0 y1 y2 y3 y4 y5 y6) (spec_l23Peak.l0 (k + 1) y0 y1 y2 y3 y4 y5 y6))
 | 0 => ⟨fun _ _ _ _ _ r h => by simp [spec_l23Peak.f] at h, fun _ _ _ _ _ _ _ r h => by simp [spec_l23Peak.l0] at h⟩
 | k + 1 => by
  obtain ⟨ih0, ih1⟩ := spec_l23Peak.mono_l k; refine ⟨?_, ?_⟩
  all_goals
   intros
   first | unfold spec_l23Peak.f | unfold spec_l23Peak.l0
   repeat' first
   | (with_reducible exact ih0 _ _ _ _ _)
   | (with_reducible exact ih1 _ _ _ _ _ _ _)
   | (with_reducible exact spec_WordsIn.mono _ _ _ _ _ _)
   | (with_reducible exact LeO.refl _)
   | (with_reducible exact LeO.none _)
   | (with_reducible refine LeO.ite ?_ ?_)
   | (with_reducible refine LeO.bind ?_ (fun _ => ?_))
   | exact ih0 _ _ _ _ _
   | exact ih1 _ _ _ _ _ _ _
   | exact spec_WordsIn.mono _ _ _ _ _ _
   | exact LeO.none _
   | refine LeO.ite ?_ ?_
   | refine LeO.bind ?_ (fun _ => ?_)
theorem spec_l23Peak.mono : ∀ a0 a1 a2 a3 a4 k, LeO (spec_l23Peak.f k a0 a1 a2 a3 a4) (spec_l23Peak.f (k + 1) a0 a1 a2 a3 a4) := by
 intro a0 a1 a2 a3 a4 k; obtain ⟨ih0, ih1⟩ := spec_l23Peak.mono_l k; exact ih0 a0 a1 a2 a3 a4
set_option maxHeartbeats 8000000 in
set_option maxRecDepth 100000 in
theorem spec_l23Peak.calls (k : Nat) : ∀ (ae : ByteArray) (am : Option Addr) (an : Nat) (ac : List ByteArray) (ar : Option Addr) (ao : Nat) (ab : List (S27)) (A1 : Option Addr) (c1 : Nat) (l1 : List ByteArray) (A2 : Option Addr) (c2 : Nat) (l2 : List Int) (r : Int) (w : World) (hr0_1 : Kd.C Kd.string w am ac.length ac) (hc0_1 : ac.length ≤ an) (hr0_2 : Kd.C k27 w ar ab.length ab) (hc0_2 : ab.length ≤ ao) (hr1 : Kd.C Kd.string w A1 l1.length l1) (hc1 : l1.length ≤ c1) (hr2 : Kd.C (Kd.int .i64) w A2 l2.length l2) (hc2 : l2.length ≤ c2) (h : spec_l23Peak.f k ae ac ab l1 l2 = some r),
 Calls Try.prog 45 #[.agg #[.string ae, .slice am ac.length an, .slice ar ab.length ao], .slice A1 l1.length c1, .slice A2 l2.length c2] w fun e w' => e = .returned (.int .i64 r) ∧ Below w.heap.size w w' := by
 induction k using Nat.strongRecOn with
 | _ k ih =>
 intro ae am an ac ar ao ab A1 c1 l1 A2 c2 l2 r w hr0_1 hc0_1 hr0_2 hc0_2 hr1 hc1 hr2 hc2 h
 cases k with
 | zero => exact absurd h (by simp [spec_l23Peak.f])
 | succ k =>
 simp only [spec_l23Peak.f] at h; have hu27 := Try.underlying27; have du := Aside0.mk hr0_1; have eb := Aside0.mk hc0_1; clear hr0_1 hc0_1; have dk := Aside0.mk hr0_2; have ef := Aside0.mk hc0_2; clear hr0_2 hc0_2; have el := Aside0.mk hr1; have ex := Aside0.mk hc1; clear hr1 hc1; have ff := Aside0.mk hr2; have gb := Aside0.mk hc2; clear hr2 hc2; have HB := Aside0.mk (Below.refl w.heap.size w); have H : (spec_l23Peak.l0 k l1 l2 0 0 ae ac ab) = some r := h; clear h; have H' := Aside0.mk H; clear H
 go_enter Try.func45, Try.ntmps45
 go_wp2_with (first | ((with_reducible refine gate_dst (N := 3) rfl ?_); refine box_event ?hg (N := 3) ?hd (cs := #[.string ae, .slice am ac.length an, .slice ar ab.length ao]) (t := 27) ?hr ?_; (case hd => rfl); (case hg => rfl); (case hr => first | (go_simp; done) | (go_simp; rfl)); intro akz hg w4 hbox hb; have sg := ak hbox; have beu := ak ((z_3 HB.out : w.heap.size ≤ akz)); have a5i := ak ((z_3 HB.out : w.heap.size ≤ akz)); replace HB := ak (below_step (z_4 HB.out) hb); clear hb hbox hg))
 go_loopg [7, 8] k (fun kq v7 v8 w' => ∃ (fx : Int) (ds : Int), v7 = .int .i64 fx ∧ v8 = .int .i64 ds ∧ Aside0 (spec_l23Peak.l0 kq l1 l2 fx ds ae ac ab = some r) ∧ Aside0 (kq ≤ k) ∧ Aside0 (w'.heap[akz]? = some (.cells #[.string ae, (.slice am ac.length an), (.slice ar ab.length ao)] 27 (0, 0))) ∧ Aside0 (Below w.heap.size w w'))
 case atStart => exact ⟨(0), (0), z_6, z_6, H', ⟨Nat.le_refl _⟩, ⟨z_8 sg.out⟩, ⟨z_5 HB.out a5i.out⟩⟩
 case round =>
  clear H'; (try clear c1); (try clear c2); obtain ⟨fx, ds, rfl, rfl, HA, HK1, sg, HB⟩ := hrel
  cases gk with
  | zero => exact absurd HA.out (by simp [spec_l23Peak.l0])
  | succ k1 =>
   have H := HA.out; clear HA; simp only [spec_l23Peak.l0] at H
   by_cases c5 : ds < (ab.length : Int)
   ·rw [if_pos c5] at H; have kz := decide_eq_true c5; clear c5
    by_cases c6 : 0 ≤ ds
    ·rw [if_pos c6] at H; have nw := decide_eq_true c6; clear c6; replace H := Option.bind_eq_some_iff.mp H; obtain ⟨yy, kk, H⟩ := H; have A7 := Aside0.mk kk; clear kk
     by_cases c8 : yy > fx
     ·rw [if_pos c8] at H; have ky : decide (fx < yy) = true := decide_eq_true c8; clear c8; have H' := Aside0.mk H; clear H; obtain ⟨tp, tq, tr, ts, tt, tu⟩ := cf sg.out; have a5j : 0 ≤ (ds : Int) := of_decide_eq_true z_9; have a5k : ds < (ab.length : Int) := of_decide_eq_true z_9; obtain ⟨b1d, al0, al1, al2, al3, al4, a5l, a5m, a5n, adl, adm, adn, ado⟩ := at_T27 dk.out ds a5j a5k; cases al4; replace a5l := (HB.out.cell (World.block_lt_of_cell? w _ a5l)).trans a5l; replace a5m := (HB.out.cell (World.block_lt_of_cell? w _ a5m)).trans a5m; replace a5n := (HB.out.cell (World.block_lt_of_cell? w _ a5n)).trans a5n; have al5 := Aside0.mk adm; have al6 := Aside0.mk adl; clear adm adl; have al7 := Aside0.mk ado
      have al8 := Aside0.mk adn; clear ado adn; replace a5j := eq_true a5j; replace a5k := eq_true a5k; go_wp2_with (first | ((with_reducible refine gate_callee (f := 45) rfl ?_); refine gl_ 24 Try.func45 #[.agg #[.string ((rd_T27 ab ds).f0), .slice al0 ((rd_T27 ab ds).f1).length al1, .slice al2 ((rd_T27 ab ds).f2).length al3], .slice A1 l1.length c1, .slice A2 l2.length c2] ?_; refine (ih k1 (by have := HK1.out; omega) ((rd_T27 ab ds).f0) _ _ ((rd_T27 ab ds).f1) _ _ ((rd_T27 ab ds).f2) _ _ l1 _ _ l2 yy _ (z_25 al5.out HB.out) al6.out (z_25 al7.out HB.out) al8.out (z_25 el.out HB.out) ex.out (z_25 ff.out HB.out) gb.out A7.out).mono ?_; rintro e qf ⟨rfl, hb⟩; refine ⟨_, rfl, ?_⟩; replace sg := bb sg hb; replace HB := ak (below_step (z_5 HB.out a5i.out) hb); (try clear hb); (try clear hb2); (try clear hk); (try clear hi))); go_roundg k1
      case measure => have := HK1.out; omega
      case rel => exact ⟨(yy), (wrap64 (ds + 1)), z_6, z_6, H', ⟨by have := HK1.out; omega⟩, ⟨z_8 sg.out⟩, ⟨z_5 HB.out a5i.out⟩⟩
     ·rw [if_neg c8] at H; have ky : decide (fx < yy) = false := decide_eq_false c8; clear c8; have H' := Aside0.mk H; clear H; obtain ⟨tv, tw, tx, vv, vw, vx⟩ := cf sg.out; have a5j : 0 ≤ (ds : Int) := of_decide_eq_true z_9; have a5k : ds < (ab.length : Int) := of_decide_eq_true z_9; obtain ⟨b1d, al0, al1, al2, al3, al4, a5l, a5m, a5n, adl, adm, adn, ado⟩ := at_T27 dk.out ds a5j a5k; cases al4; replace a5l := (HB.out.cell (World.block_lt_of_cell? w _ a5l)).trans a5l; replace a5m := (HB.out.cell (World.block_lt_of_cell? w _ a5m)).trans a5m; replace a5n := (HB.out.cell (World.block_lt_of_cell? w _ a5n)).trans a5n; have al5 := Aside0.mk adm; have al6 := Aside0.mk adl; clear adm adl; have al7 := Aside0.mk ado
      have al8 := Aside0.mk adn; clear ado adn; replace a5j := eq_true a5j; replace a5k := eq_true a5k; go_wp2_with (first | ((with_reducible refine gate_callee (f := 45) rfl ?_); refine gl_ 24 Try.func45 #[.agg #[.string ((rd_T27 ab ds).f0), .slice al0 ((rd_T27 ab ds).f1).length al1, .slice al2 ((rd_T27 ab ds).f2).length al3], .slice A1 l1.length c1, .slice A2 l2.length c2] ?_; refine (ih k1 (by have := HK1.out; omega) ((rd_T27 ab ds).f0) _ _ ((rd_T27 ab ds).f1) _ _ ((rd_T27 ab ds).f2) _ _ l1 _ _ l2 yy _ (z_25 al5.out HB.out) al6.out (z_25 al7.out HB.out) al8.out (z_25 el.out HB.out) ex.out (z_25 ff.out HB.out) gb.out A7.out).mono ?_; rintro e xi ⟨rfl, hb⟩; refine ⟨_, rfl, ?_⟩; replace sg := bb sg hb; replace HB := ak (below_step (z_5 HB.out a5i.out) hb); (try clear hb); (try clear hb2); (try clear hk); (try clear hi))); go_roundg k1
      case measure => have := HK1.out; omega
      case rel => exact ⟨(fx), (wrap64 (ds + 1)), z_6, z_6, H', ⟨by have := HK1.out; omega⟩, ⟨z_8 sg.out⟩, ⟨z_5 HB.out a5i.out⟩⟩
    ·rw [if_neg c6] at H; exact absurd H (by simp)
   ·rw [if_neg c5] at H; have kz := decide_eq_false c5; clear c5; replace H := Option.bind_eq_some_iff.mp H; obtain ⟨aky, ar2, H⟩ := H; have A13 := Aside0.mk ar2; clear ar2; obtain rfl := Option.some.inj H; obtain ⟨qz, ra, rc, re, rf, rg⟩ := cf sg.out; go_wp2_with (first | ((with_reducible refine gate_callee (f := 23) rfl ?_); refine gl_ 32 Try.func23 #[.agg #[.string ae, .slice am ac.length an, .slice ar ab.length ao], .slice A1 l1.length c1, .slice A2 l2.length c2] ?_; refine (spec_WordsIn.calls k1 ae _ _ ac _ _ ab _ _ l1 _ _ l2 aky _ (z_25 du.out HB.out) eb.out (z_25 dk.out HB.out) ef.out (z_25 el.out HB.out) ex.out (z_25 ff.out HB.out) gb.out A13.out).mono ?_; rintro e vr ⟨rfl, hb⟩; refine ⟨_, rfl, ?_⟩; replace sg := bb sg hb; replace HB := ak (below_step (z_5 HB.out a5i.out) hb); (try clear hb); (try clear hb2); (try clear hk); (try clear hi))); go_ret; exact ⟨z_17, z_5 HB.out a5i.out⟩
def spec_Peak.f (k : Nat) (ae : ByteArray) (ac : List ByteArray) (ab : List (S27)) (l1 : List ByteArray) (l2 : List Int) : Option (Int) := (spec_SegOk.f k ae ac ab).bind fun adp => (if adp = true then ((spec_l23Peak.f k ae ac ab l1 l2).bind fun adq => (some adq)) else (some 0))
theorem spec_Peak.mono : ∀ a0 a1 a2 a3 a4 k, LeO (spec_Peak.f k a0 a1 a2 a3 a4) (spec_Peak.f (k + 1) a0 a1 a2 a3 a4) := by
 intro a0 a1 a2 a3 a4 k; unfold spec_Peak.f
 repeat' first
  | (with_reducible exact spec_SegOk.mono _ _ _ _)
  | (with_reducible exact spec_l23Peak.mono _ _ _ _ _ _)
  | (with_reducible exact LeO.refl _)
  | (with_reducible exact LeO.none _)
  | (with_reducible refine LeO.ite ?_ ?_)
  | (with_reducible refine LeO.bind ?_ (fun _ => ?_))
  | exact spec_SegOk.mono _ _ _ _
  | exact spec_l23Peak.mono _ _ _ _ _ _
  | exact LeO.none _
  | refine LeO.ite ?_ ?_
  | refine LeO.bind ?_ (fun _ => ?_)
set_option maxHeartbeats 8000000 in
set_option maxRecDepth 100000 in
theorem spec_Peak.calls (k : Nat) (ae : ByteArray) (am : Option Addr) (an : Nat) (ac : List ByteArray) (ar : Option Addr) (ao : Nat) (ab : List (S27)) (A1 : Option Addr) (c1 : Nat) (l1 : List ByteArray) (A2 : Option Addr) (c2 : Nat) (l2 : List Int) (r : Int) (w : World) (hr0_1 : Kd.C Kd.string w am ac.length ac) (hc0_1 : ac.length ≤ an) (hr0_2 : Kd.C k27 w ar ab.length ab) (hc0_2 : ab.length ≤ ao) (hr1 : Kd.C Kd.string w A1 l1.length l1) (hc1 : l1.length ≤ c1) (hr2 : Kd.C (Kd.int .i64) w A2 l2.length l2) (hc2 : l2.length ≤ c2) (h : spec_Peak.f k ae ac ab l1 l2 = some r) :
 Calls Try.prog 20 #[.agg #[.string ae, .slice am ac.length an, .slice ar ab.length ao], .slice A1 l1.length c1, .slice A2 l2.length c2] w fun e w' => e = .returned (.int .i64 r) ∧ Below w.heap.size w w' := by
 have hu27 := Try.underlying27; have du := Aside0.mk hr0_1; have eb := Aside0.mk hc0_1; clear hr0_1 hc0_1; have dk := Aside0.mk hr0_2; have ef := Aside0.mk hc0_2; clear hr0_2 hc0_2; have el := Aside0.mk hr1; have ex := Aside0.mk hc1; clear hr1 hc1; have ff := Aside0.mk hr2; have gb := Aside0.mk hc2; clear hr2 hc2; have HB := Aside0.mk (Below.refl w.heap.size w); have H : ((spec_SegOk.f k ae ac ab).bind fun adp => (if adp = true then ((spec_l23Peak.f k ae ac ab l1 l2).bind fun adq => (some adq)) else (some 0))) = some r := h; clear h; replace H := Option.bind_eq_some_iff.mp H; obtain ⟨adp, fe, H⟩ := H; have A4 := Aside0.mk fe; clear fe
 by_cases c5 : adp = true
 ·subst c5; rw [if_pos rfl] at H; replace H := Option.bind_eq_some_iff.mp H; obtain ⟨adq, ii, H⟩ := H; have A6 := Aside0.mk ii; clear ii; obtain rfl := Option.some.inj H
  go_enter Try.func20, Try.ntmps20
  go_wp2_with (first | ((with_reducible refine gate_dst (N := 3) rfl ?_); refine box_event ?hg (N := 3) ?hd (cs := #[.string ae, .slice am ac.length an, .slice ar ab.length ao]) (t := 27) ?hr ?_; (case hd => rfl); (case hg => rfl); (case hr => first | (go_simp; done) | (go_simp; rfl)); intro adr hg w7 hbox hb; have jv := ak hbox; have b1e := ak ((z_3 HB.out : w.heap.size ≤ adr)); have a8h := ak ((z_3 HB.out : w.heap.size ≤ adr)); replace HB := ak (below_step (z_4 HB.out) hb); clear hb hbox hg; have a6x := bc jv.out 0; have a6y := bc jv.out 1; have a6z := bc jv.out 2; have ab0 := blk_frozen jv.out 0; have ab1 := blk_frozen jv.out 1; have ab2 := blk_frozen jv.out 2) | ((with_reducible refine gate_callee (f := 38) rfl ?_); refine gl_ 8 Try.func38 #[.agg #[.string ae, .slice am ac.length an, .slice ar ab.length ao]] ?_; refine (spec_SegOk.calls k ae _ _ ac _ _ ab true _ (z_25 du.out HB.out) eb.out (z_25 dk.out HB.out) ef.out A4.out).mono ?_; rintro e w9 ⟨rfl, hb⟩; refine ⟨_, rfl, ?_⟩; replace jv := bb jv hb; replace HB := ak (below_step (z_5 HB.out a8h.out) hb); (try clear hb); (try clear hb2); (try clear hk); (try clear hi); have af7 := bc jv.out 0; have af8 := bc jv.out 1; have af9 := bc jv.out 2; have afa := blk_frozen jv.out 0; have afb := blk_frozen jv.out 1; have afc := blk_frozen jv.out 2) | ((with_reducible refine gate_callee (f := 45) rfl ?_); refine gl_ 13 Try.func45 #[.agg #[.string ae, .slice am ac.length an, .slice ar ab.length ao], .slice A1 l1.length c1, .slice A2 l2.length c2] ?_; refine (spec_l23Peak.calls k ae _ _ ac _ _ ab _ _ l1 _ _ l2 adq _ (z_25 du.out HB.out) eb.out (z_25 dk.out HB.out) ef.out (z_25 el.out HB.out) ex.out (z_25 ff.out HB.out) gb.out A6.out).mono ?_; rintro e vu ⟨rfl, hb⟩; refine ⟨_, rfl, ?_⟩; replace jv := bb jv hb; replace HB := ak (below_step (z_5 HB.out a8h.out) hb); (try clear hb); (try clear hb2); (try clear hk); (try clear hi)))
  go_ret; exact ⟨z_17, z_5 HB.out a8h.out⟩
 ·replace c5 := Bool.eq_false_iff.mpr c5; subst c5; rw [if_neg (show ¬ (false = true) by decide)] at H; obtain rfl := Option.some.inj H
  go_enter Try.func20, Try.ntmps20
  go_wp2_with (first | ((with_reducible refine gate_dst (N := 3) rfl ?_); refine box_event ?hg (N := 3) ?hd (cs := #[.string ae, .slice am ac.length an, .slice ar ab.length ao]) (t := 27) ?hr ?_; (case hd => rfl); (case hg => rfl); (case hr => first | (go_simp; done) | (go_simp; rfl)); intro adr hg xi hbox hb; have jv := ak hbox; have b1e := ak ((z_3 HB.out : w.heap.size ≤ adr)); have a8h := ak ((z_3 HB.out : w.heap.size ≤ adr)); replace HB := ak (below_step (z_4 HB.out) hb); clear hb hbox hg; have sp := bc jv.out 0; have sq := bc jv.out 1; have sr := bc jv.out 2; have su := blk_frozen jv.out 0; have sv := blk_frozen jv.out 1; have sw := blk_frozen jv.out 2) | ((with_reducible refine gate_callee (f := 38) rfl ?_); refine gl_ 8 Try.func38 #[.agg #[.string ae, .slice am ac.length an, .slice ar ab.length ao]] ?_; refine (spec_SegOk.calls k ae _ _ ac _ _ ab false _ (z_25 du.out HB.out) eb.out (z_25 dk.out HB.out) ef.out A4.out).mono ?_; rintro e w14 ⟨rfl, hb⟩; refine ⟨_, rfl, ?_⟩; replace jv := bb jv hb; replace HB := ak (below_step (z_5 HB.out a8h.out) hb); (try clear hb); (try clear hb2); (try clear hk); (try clear hi)))
  go_ret; exact ⟨z_17, z_5 HB.out a8h.out⟩
mutual
def spec_Flat.l0 : Nat → List ByteArray → List Int → Int → Int → ByteArray → List ByteArray → List (S27) → Option (Int)
 | 0, _, _, _, _, _, _, _ => none
 | k + 1, x1, x2, x7, x8, b1f, b1g, ads => if x8 < (ads.length : Int) then (if 0 ≤ x8 then ((spec_Flat.f k ((rd_T27 ads x8).f0) ((rd_T27 ads x8).f1) ((rd_T27 ads x8).f2) x1 x2).bind fun agd => (spec_Flat.l0 k x1 x2 (wrap64 (x7 + agd)) (wrap64 (x8 + 1)) b1f b1g ads)) else (none)) else (some x7)
def spec_Flat.f : Nat → ByteArray → List ByteArray → List (S27) → List ByteArray → List Int → Option (Int)
 | 0, _, _, _, _, _ => none
 | k + 1, ae, ac, ab, l1, l2 => (spec_WordsIn.f k ae ac ab l1 l2).bind fun a8i => (spec_Flat.l0 k l1 l2 a8i 0 ae ac ab)
end
theorem spec_Flat.mono_l : ∀ k, (∀ y0 y1 y2 y3 y4, LeO (spec_Flat.f k y0 y1 y2 y3 y4) (spec_Flat.f (k + 1) y0 y1 y2 y3 y4)) ∧ (∀ y0 y1 y2 y3 y4 y5 y6, LeO (spec_Flat.l0 k y0 y1 y2 y3 y4 y5 y6) (spec_Flat.l0 (k + 1) y0 y1 y2 y3 y4 y5 y6))
 | 0 => ⟨fun _ _ _ _ _ r h => by simp [spec_Flat.f] at h, fun _ _ _ _ _ _ _ r h => by simp [spec_Flat.l0] at h⟩
 | k + 1 => by
  obtain ⟨ih0, ih1⟩ := spec_Flat.mono_l k; refine ⟨?_, ?_⟩
  all_goals
   intros
   first | unfold spec_Flat.f | unfold spec_Flat.l0
   repeat' first
   | (with_reducible exact ih0 _ _ _ _ _)
   | (with_reducible exact ih1 _ _ _ _ _ _ _)
   | (with_reducible exact spec_WordsIn.mono _ _ _ _ _ _)
   | (with_reducible exact LeO.refl _)
   | (with_reducible exact LeO.none _)
   | (with_reducible refine LeO.ite ?_ ?_)
   | (with_reducible refine LeO.bind ?_ (fun _ => ?_))
   | exact ih0 _ _ _ _ _
   | exact ih1 _ _ _ _ _ _ _
   | exact spec_WordsIn.mono _ _ _ _ _ _
   | exact LeO.none _
   | refine LeO.ite ?_ ?_
   | refine LeO.bind ?_ (fun _ => ?_)
theorem spec_Flat.mono : ∀ a0 a1 a2 a3 a4 k, LeO (spec_Flat.f k a0 a1 a2 a3 a4) (spec_Flat.f (k + 1) a0 a1 a2 a3 a4) := by
 intro a0 a1 a2 a3 a4 k; obtain ⟨ih0, ih1⟩ := spec_Flat.mono_l k; exact ih0 a0 a1 a2 a3 a4
set_option maxHeartbeats 8000000 in
set_option maxRecDepth 100000 in
theorem spec_Flat.calls (k : Nat) : ∀ (ae : ByteArray) (am : Option Addr) (an : Nat) (ac : List ByteArray) (ar : Option Addr) (ao : Nat) (ab : List (S27)) (A1 : Option Addr) (c1 : Nat) (l1 : List ByteArray) (A2 : Option Addr) (c2 : Nat) (l2 : List Int) (r : Int) (w : World) (hr0_1 : Kd.C Kd.string w am ac.length ac) (hc0_1 : ac.length ≤ an) (hr0_2 : Kd.C k27 w ar ab.length ab) (hc0_2 : ab.length ≤ ao) (hr1 : Kd.C Kd.string w A1 l1.length l1) (hc1 : l1.length ≤ c1) (hr2 : Kd.C (Kd.int .i64) w A2 l2.length l2) (hc2 : l2.length ≤ c2) (h : spec_Flat.f k ae ac ab l1 l2 = some r),
 Calls Try.prog 21 #[.agg #[.string ae, .slice am ac.length an, .slice ar ab.length ao], .slice A1 l1.length c1, .slice A2 l2.length c2] w fun e w' => e = .returned (.int .i64 r) ∧ Below w.heap.size w w' := by
 induction k using Nat.strongRecOn with
 | _ k ih =>
 intro ae am an ac ar ao ab A1 c1 l1 A2 c2 l2 r w hr0_1 hc0_1 hr0_2 hc0_2 hr1 hc1 hr2 hc2 h
 cases k with
 | zero => exact absurd h (by simp [spec_Flat.f])
 | succ k =>
 simp only [spec_Flat.f] at h; have hu27 := Try.underlying27; have du := Aside0.mk hr0_1; have eb := Aside0.mk hc0_1; clear hr0_1 hc0_1; have dk := Aside0.mk hr0_2; have ef := Aside0.mk hc0_2; clear hr0_2 hc0_2; have el := Aside0.mk hr1; have ex := Aside0.mk hc1; clear hr1 hc1; have ff := Aside0.mk hr2; have gb := Aside0.mk hc2; clear hr2 hc2; have HB := Aside0.mk (Below.refl w.heap.size w); have H : ((spec_WordsIn.f k ae ac ab l1 l2).bind fun a8i => (spec_Flat.l0 k l1 l2 a8i 0 ae ac ab)) = some r := h; clear h; replace H := Option.bind_eq_some_iff.mp H; obtain ⟨a8i, fe, H⟩ := H; have A4 := Aside0.mk fe; clear fe; have H' := Aside0.mk H; clear H
 go_enter Try.func21, Try.ntmps21
 go_wp2_with (first | ((with_reducible refine gate_dst (N := 3) rfl ?_); refine box_event ?hg (N := 3) ?hd (cs := #[.string ae, .slice am ac.length an, .slice ar ab.length ao]) (t := 27) ?hr ?_; (case hd => rfl); (case hg => rfl); (case hr => first | (go_simp; done) | (go_simp; rfl)); intro al9 hg w5 hbox hb; have px := ak hbox; have bev := ak ((z_3 HB.out : w.heap.size ≤ al9)); have adt := ak ((z_3 HB.out : w.heap.size ≤ al9)); replace HB := ak (below_step (z_4 HB.out) hb); clear hb hbox hg; have a2h := bc px.out 0; have a2i := bc px.out 1; have a2j := bc px.out 2; have a2k := blk_frozen px.out 0; have a2l := blk_frozen px.out 1; have a2m := blk_frozen px.out 2) | ((with_reducible refine gate_callee (f := 23) rfl ?_); refine gl_ 12 Try.func23 #[.agg #[.string ae, .slice am ac.length an, .slice ar ab.length ao], .slice A1 l1.length c1, .slice A2 l2.length c2] ?_; refine (spec_WordsIn.calls k ae _ _ ac _ _ ab _ _ l1 _ _ l2 a8i _ (z_25 du.out HB.out) eb.out (z_25 dk.out HB.out) ef.out (z_25 el.out HB.out) ex.out (z_25 ff.out HB.out) gb.out A4.out).mono ?_; rintro e w7 ⟨rfl, hb⟩; refine ⟨_, rfl, ?_⟩; replace px := bb px hb; replace HB := ak (below_step (z_5 HB.out adt.out) hb); (try clear hb); (try clear hb2); (try clear hk); (try clear hi)))
 go_loopg [7, 8] k (fun kq v7 v8 w' => ∃ (fx : Int) (ds : Int), v7 = .int .i64 fx ∧ v8 = .int .i64 ds ∧ Aside0 (spec_Flat.l0 kq l1 l2 fx ds ae ac ab = some r) ∧ Aside0 (kq ≤ k) ∧ Aside0 (w'.heap[al9]? = some (.cells #[.string ae, (.slice am ac.length an), (.slice ar ab.length ao)] 27 (0, 0))) ∧ Aside0 (Below w.heap.size w w'))
 case atStart => exact ⟨(a8i), (0), z_6, z_6, H', ⟨Nat.le_refl _⟩, ⟨z_8 px.out⟩, ⟨z_5 HB.out adt.out⟩⟩
 case round =>
  clear H'; (try clear c1); (try clear c2); (try clear a2h); (try clear a2i); (try clear a2j); (try clear a2k); (try clear a2l); (try clear a2m); obtain ⟨fx, ds, rfl, rfl, HA, HK1, px, HB⟩ := hrel
  cases gk with
  | zero => exact absurd HA.out (by simp [spec_Flat.l0])
  | succ k1 =>
   have H := HA.out; clear HA; simp only [spec_Flat.l0] at H
   by_cases c8 : ds < (ab.length : Int)
   ·rw [if_pos c8] at H; have ky := decide_eq_true c8; clear c8
    by_cases c9 : 0 ≤ ds
    ·rw [if_pos c9] at H; have si := decide_eq_true c9; clear c9; replace H := Option.bind_eq_some_iff.mp H; obtain ⟨agd, ki, H⟩ := H; have lx := Aside0.mk ki; clear ki; have H' := Aside0.mk H; clear H; obtain ⟨tv, tw, tx, vv, vw, vx⟩ := cf px.out; have ala : 0 ≤ (ds : Int) := of_decide_eq_true z_9; have alb : ds < (ab.length : Int) := of_decide_eq_true z_9; obtain ⟨bew, b1h, b1i, b1j, b1k, b1l, alc, ald, ale, ar3, ar4, ar5, ar6⟩ := at_T27 dk.out ds ala alb; cases b1l; replace alc := (HB.out.cell (World.block_lt_of_cell? w _ alc)).trans alc; replace ald := (HB.out.cell (World.block_lt_of_cell? w _ ald)).trans ald; replace ale := (HB.out.cell (World.block_lt_of_cell? w _ ale)).trans ale; have b1m := Aside0.mk ar4; have b1n := Aside0.mk ar3; clear ar4 ar3; have b1o := Aside0.mk ar6; have b1p := Aside0.mk ar5; clear ar6 ar5; replace ala := eq_true ala; replace alb := eq_true alb; go_wp2_with (first | ((with_reducible refine gate_callee (f := 21) rfl ?_); refine gl_ 28 Try.func21 #[.agg #[.string ((rd_T27 ab ds).f0), .slice b1h ((rd_T27 ab ds).f1).length b1i, .slice b1j ((rd_T27 ab ds).f2).length b1k], .slice A1 l1.length c1, .slice A2 l2.length c2] ?_; refine (ih k1 (by have := HK1.out; omega) ((rd_T27 ab ds).f0) _ _ ((rd_T27 ab ds).f1) _ _ ((rd_T27 ab ds).f2) _ _ l1 _ _ l2 agd _ (z_25 b1m.out HB.out) b1n.out (z_25 b1o.out HB.out) b1p.out (z_25 el.out HB.out) ex.out (z_25 ff.out HB.out) gb.out lx.out).mono ?_; rintro e xi ⟨rfl, hb⟩; refine ⟨_, rfl, ?_⟩; replace px := bb px hb; replace HB := ak (below_step (z_5 HB.out adt.out) hb); (try clear hb); (try clear hb2); (try clear hk); (try clear hi)))
     go_roundg k1
     case measure => have := HK1.out; omega
     case rel => exact ⟨(wrap64 (fx + agd)), (wrap64 (ds + 1)), z_6, z_6, H', ⟨by have := HK1.out; omega⟩, ⟨z_8 px.out⟩, ⟨z_5 HB.out adt.out⟩⟩
    ·rw [if_neg c9] at H; exact absurd H (by simp)
   ·rw [if_neg c8] at H; have ky := decide_eq_false c8; clear c8; obtain rfl := Option.some.inj H; obtain ⟨sp, sq, sr, su, sv, sw⟩ := cf px.out; go_wp2; go_ret; exact ⟨z_17, z_5 HB.out adt.out⟩
mutual
def spec_Segs.l0 : Nat → List ByteArray → Int → ByteArray → List ByteArray → List (S27) → Option (List ByteArray)
 | 0, _, _, _, _, _ => none
 | k + 1, x3, x4, b1q, b1r, adu => if x4 < (adu.length : Int) then (if 0 ≤ x4 then ((spec_Segs.f k ((rd_T27 adu x4).f0) ((rd_T27 adu x4).f1) ((rd_T27 adu x4).f2)).bind fun a2g => (if x3.length + a2g.length < 8796093022208 then (spec_Segs.l0 k (x3 ++ a2g) (wrap64 (x4 + 1)) b1q b1r adu) else (none))) else (none)) else (some x3)
def spec_Segs.f : Nat → ByteArray → List ByteArray → List (S27) → Option (List ByteArray)
 | 0, _, _, _ => none
 | k + 1, ae, ac, ab => spec_Segs.l0 k (([ae] : List ByteArray)) 0 ae ac ab
end
theorem spec_Segs.mono_l : ∀ k, (∀ y0 y1 y2, LeO (spec_Segs.f k y0 y1 y2) (spec_Segs.f (k + 1) y0 y1 y2)) ∧ (∀ y0 y1 y2 y3 y4, LeO (spec_Segs.l0 k y0 y1 y2 y3 y4) (spec_Segs.l0 (k + 1) y0 y1 y2 y3 y4))
 | 0 => ⟨fun _ _ _ r h => by simp [spec_Segs.f] at h, fun _ _ _ _ _ r h => by simp [spec_Segs.l0] at h⟩
 | k + 1 => by
  obtain ⟨ih0, ih1⟩ := spec_Segs.mono_l k; refine ⟨?_, ?_⟩
  all_goals
   intros
   first | unfold spec_Segs.f | unfold spec_Segs.l0
   repeat' first
   | (with_reducible exact ih0 _ _ _)
   | (with_reducible exact ih1 _ _ _ _ _)
   | (with_reducible exact LeO.refl _)
   | (with_reducible exact LeO.none _)
   | (with_reducible refine LeO.ite ?_ ?_)
   | (with_reducible refine LeO.bind ?_ (fun _ => ?_))
   | exact ih0 _ _ _
   | exact ih1 _ _ _ _ _
   | exact LeO.none _
   | refine LeO.ite ?_ ?_
   | refine LeO.bind ?_ (fun _ => ?_)
theorem spec_Segs.mono : ∀ a0 a1 a2 k, LeO (spec_Segs.f k a0 a1 a2) (spec_Segs.f (k + 1) a0 a1 a2) := by
 intro a0 a1 a2 k; obtain ⟨ih0, ih1⟩ := spec_Segs.mono_l k; exact ih0 a0 a1 a2
set_option maxHeartbeats 8000000 in
set_option maxRecDepth 100000 in
theorem spec_Segs.calls (k : Nat) : ∀ (ae : ByteArray) (am : Option Addr) (an : Nat) (ac : List ByteArray) (ar : Option Addr) (ao : Nat) (ab : List (S27)) (r : List ByteArray) (w : World) (hr0_1 : Kd.C Kd.string w am ac.length ac) (hc0_1 : ac.length ≤ an) (hr0_2 : Kd.C k27 w ar ab.length ab) (hc0_2 : ab.length ≤ ao) (h : spec_Segs.f k ae ac ab = some r),
 Calls Try.prog 24 #[.agg #[.string ae, .slice am ac.length an, .slice ar ab.length ao]] w fun e w' => ∃ v0_ : Value, e = .returned (v0_) ∧ Kd.R Kd.string 9 w' w.heap.size (fun _ => True) v0_ r ∧ Below w.heap.size w w' := by
 induction k using Nat.strongRecOn with
 | _ k ih =>
 intro ae am an ac ar ao ab r w hr0_1 hc0_1 hr0_2 hc0_2 h
 cases k with
 | zero => exact absurd h (by simp [spec_Segs.f])
 | succ k =>
 simp only [spec_Segs.f] at h; have hu27 := Try.underlying27; have du := Aside0.mk hr0_1; have eb := Aside0.mk hc0_1; clear hr0_1 hc0_1; have dk := Aside0.mk hr0_2; have ef := Aside0.mk hc0_2; clear hr0_2 hc0_2; have HB := Aside0.mk (Below.refl w.heap.size w); have H : (spec_Segs.l0 k (([ae] : List ByteArray)) 0 ae ac ab) = some r := h; clear h; obtain ⟨ar7, adv⟩ : ∃ y_ : List ByteArray, y_ = (([ae] : List ByteArray)) := ⟨_, rfl⟩; replace H : (spec_Segs.l0 k ar7 0 ae ac ab) = some r := by first | (rw [adv]; with_reducible exact H) | (have H2_ := (Option.bind_some _ _).symm.trans H; rw [adv]; with_reducible exact H2_) | (have H2_ := (Option.bind_some _ _).symm.trans H; with_reducible exact H2_) | with_reducible exact H | (rw [adv]; exact H) | exact H
 have ar8 := Aside0.mk adv; clear adv; have H' := Aside0.mk H; clear H
 go_enter Try.func24, Try.ntmps24
 go_wp2_with (first | ((with_reducible refine gate_dst (N := 1) rfl ?_); refine box_event ?hg (N := 1) ?hd (cs := #[.string ae, .slice am ac.length an, .slice ar ab.length ao]) (t := 27) ?hr ?_; (case hd => rfl); (case hg => rfl); (case hr => first | (go_simp; done) | (go_simp; rfl)); intro age hg w2 hbox hb; have nu := ak hbox; have bex := ak ((z_3 HB.out : w.heap.size ≤ age)); have yz := ak ((z_3 HB.out : w.heap.size ≤ age)); replace HB := ak (below_step (z_4 HB.out) hb); clear hb hbox hg; have aea := bc nu.out 0; have aeb := bc nu.out 1; have aec := bc nu.out 2; have agj := blk_frozen nu.out 0; have agk := blk_frozen nu.out 1; have agl := blk_frozen nu.out 2) | ((with_reducible refine gate_dst (N := 7) rfl ?_); refine Kd.R_lit Kd.string _ 9 ?hg (N := 7) ?hd (xs := ([ae] : List ByteArray)) (inner := [.string ae]) (ok := fun _ => True) (okp := fun _ => True) ?hr ?hp (fun _ hk => hk) trivial (Below.refl _ _) (Nat.le_refl _) (by simp) ?_; (case hd => rfl); (case hg => rfl); (case hr => first | (go_simp; done) | (go_simp; rfl)); (case hp => exact (Reps.one (show Kd.M Kd.string _ _ _ ae [.string ae] from rfl) (Reps.none _ _))); intro bey w4 nv hb hg_ hnew_; clear hg_ hnew_; (first | rw [← ar8.out] at nv | (simp only [Int.reduceToNat] at nv; rw [← ar8.out] at nv)); have b1s := ak (Kd.R_lower nv (below_size (z_5 HB.out yz.out))); replace nu := bb nu hb; replace HB := ak (below_step (z_5 HB.out yz.out) hb); clear hb nv))
 go_loopg [3, 4] k (fun kq v3 v4 w' => ∃ (cb : List ByteArray) (ev : Int), v4 = .int .i64 ev ∧ Aside0 (spec_Segs.l0 kq cb ev ae ac ab = some r) ∧ Aside0 (kq ≤ k) ∧ Aside0 (Kd.R Kd.string 9 w' w.heap.size (fun _ => True) v3 cb) ∧ Aside0 (w'.heap[age]? = some (.cells #[.string ae, (.slice am ac.length an), (.slice ar ab.length ao)] 27 (0, 0))) ∧ Aside0 (Below w.heap.size w w'))
 case atStart => exact ⟨(ar7), (0), z_6, H', ⟨Nat.le_refl _⟩, ⟨z_7 b1s.out⟩, ⟨z_8 nu.out⟩, ⟨z_5 HB.out yz.out⟩⟩
 case round =>
  clear H'; (try clear aea); (try clear aeb); (try clear aec); (try clear agj); (try clear agk); (try clear agl); obtain ⟨cb, ev, rfl, HA, HK1, bm, nu, HB⟩ := hrel
  cases gk with
  | zero => exact absurd HA.out (by simp [spec_Segs.l0])
  | succ k1 =>
   have H := HA.out; clear HA; simp only [spec_Segs.l0] at H
   by_cases c6 : ev < (ab.length : Int)
   ·rw [if_pos c6] at H; have nw := decide_eq_true c6; clear c6
    by_cases c7 : 0 ≤ ev
    ·rw [if_pos c7] at H; have pk := decide_eq_true c7; clear c7; replace H := Option.bind_eq_some_iff.mp H; obtain ⟨a2g, qe, H⟩ := H; have A8 := Aside0.mk qe; clear qe
     by_cases c9 : cb.length + a2g.length < 8796093022208
     ·rw [if_pos c9] at H; have b1t := Aside0.mk c9; clear c9; obtain ⟨ar9, adw⟩ : ∃ y_ : List ByteArray, y_ = (cb ++ a2g) := ⟨_, rfl⟩; replace H : (spec_Segs.l0 k1 ar9 (wrap64 (ev + 1)) ae ac ab) = some r := by first | (rw [adw]; with_reducible exact H) | (have H2_ := (Option.bind_some _ _).symm.trans H; rw [adw]; with_reducible exact H2_) | (have H2_ := (Option.bind_some _ _).symm.trans H; with_reducible exact H2_) | with_reducible exact H | (rw [adw]; exact H) | exact H
      have b1u := Aside0.mk adw; clear adw; have H' := Aside0.mk H; clear H; obtain ⟨af7, af8, af9, afa, afb, afc⟩ := cf nu.out; have alf : 0 ≤ (ev : Int) := of_decide_eq_true z_9; have alg : ev < (ab.length : Int) := of_decide_eq_true z_9; obtain ⟨b1v, b1w, b1x, b1y, b1z, b2a, alh, ali, alj, ara, arb, arc, ard⟩ := at_T27 dk.out ev alf alg; cases b2a; replace alh := (HB.out.cell (World.block_lt_of_cell? w _ alh)).trans alh; replace ali := (HB.out.cell (World.block_lt_of_cell? w _ ali)).trans ali; replace alj := (HB.out.cell (World.block_lt_of_cell? w _ alj)).trans alj; have b2b := Aside0.mk arb; have b2c := Aside0.mk ara; clear arb ara; have b2d := Aside0.mk ard; have b2e := Aside0.mk arc; clear ard arc; replace alf := eq_true alf; replace alg := eq_true alg; go_wp2_with (first | ((with_reducible refine gate_callee (f := 24) rfl ?_); refine gl_ 21 Try.func24 #[.agg #[.string ((rd_T27 ab ev).f0), .slice b1w ((rd_T27 ab ev).f1).length b1x, .slice b1y ((rd_T27 ab ev).f2).length b1z]] ?_; refine (ih k1 (by have := HK1.out; omega) ((rd_T27 ab ev).f0) _ _ ((rd_T27 ab ev).f1) _ _ ((rd_T27 ab ev).f2) a2g _ (z_25 b2b.out HB.out) b2c.out (z_25 b2d.out HB.out) b2e.out A8.out).mono ?_; rintro e vu ⟨bez, rfl, aq, hb⟩; refine ⟨_, rfl, ?_⟩; have adx := ak (Kd.R_lower (Kd.R_new' aq (Kd.R_lt (z_7 bm.out))) (below_size (z_5 HB.out yz.out))); replace bm := ak (Kd.R_elder' (z_7 bm.out) (Kd.R_base aq) hb); replace nu := bb nu hb; replace HB := ak (below_step (z_5 HB.out yz.out) hb); (try clear hb); (try clear hb2); (try clear hk); (try clear hi); (try clear aq); obtain ⟨bl, bk, rp⟩ := Kd.R_slice adx.out; subst rp) | ((with_reducible refine gate_builtin (b := .append) (xs := #[.tmp 15, .tmp 21]) rfl ?_); at_builtin; refine Kd.R_append_rows Kd.string (w0 := w) w.heap.size rfl (.tmp 15) (.tmp 21) 24 9 (.string ⟨#[]⟩) 16 rfl Try.underlying24 info9 rfl (by decide) (by omega) u3 cb a2g _ _ _ (fun k_ => some k_ ≠ (.slice bl a2g.length bk : Value).ownBlock) (fun _ => False) rfl rfl ?aO ?aR (fun _ _ h => h) (fun _ h => h.elim) ?aF ?aB ?aS ?aL ?_; (case aR => exact z_14 adx.out); (case aB => exact z_5 HB.out yz.out); (case aF => exact (fun k_ hk => Kd.fresh' (Kd.R_lt (z_7 adx.out)) k_ hk)); (case aO => exact z_15 bm.out); (case aS => exact (below_size (z_5 HB.out yz.out))); (case aL => have := b1t.out; omega); intro bf0 xi ho hb hg hat; rw [← b1u.out] at ho; replace nu := ak (blk_grown (g := age) (o := .cells #[.string ae, .slice am ac.length an, .slice (some b1v) ab.length ao] 27 (0, 0)) (z_8 nu.out) hg (Kd.R_ne bm.out nu.out (by decide))); replace adx := ak (Kd.R_after (ok := (fun _ => True)) (z_7 adx.out) hg hat); replace HB := ak hb; have b2f := ak ho; clear bm; clear ho hb hg hat))
      go_roundg k1
      case measure => have := HK1.out; omega
      case rel => exact ⟨(ar9), (wrap64 (ev + 1)), z_6, H', ⟨by have := HK1.out; omega⟩, ⟨z_16 b2f.out⟩, ⟨z_8 nu.out⟩, ⟨z_5 HB.out yz.out⟩⟩
     ·rw [if_neg c9] at H; exact absurd H (by simp)
    ·rw [if_neg c7] at H; exact absurd H (by simp)
   ·rw [if_neg c6] at H; have nw := decide_eq_false c6; clear c6; obtain rfl := Option.some.inj H; obtain ⟨qz, ra, rc, re, rf, rg⟩ := cf nu.out; go_wp2; go_ret; exact ⟨_, z_17, z_7 bm.out, z_5 HB.out yz.out⟩
end Go.Proofs.Ytdphpmejjlgpnaa.PFnTreesBent

