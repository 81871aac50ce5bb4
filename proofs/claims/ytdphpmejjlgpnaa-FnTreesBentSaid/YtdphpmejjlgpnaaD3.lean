import Derived.Test.YtdphpmejjlgpnaaD0
import Derived.Test.YtdphpmejjlgpnaaD2
import Derived.Test.YtdphpmejjlgpnaaDZ
set_option linter.unusedVariables false
set_option linter.unusedSimpArgs false
set_option linter.unusedSectionVars false
namespace Go.Proofs.Ytdphpmejjlgpnaa.PFnTreesBent
open Go.RowKit Go.Proofs.YtdphpmejjlgpnaaW.PrintWords Go.Proofs.YtdphpmejjlgpnaaW.PrintLast Go.Proofs.YtdphpmejjlgpnaaW.PrintMore Go.Proofs.Ytdphpmejjlgpnaa.Short
attribute [local go_sem] max2_int min2_int max_two min_two max_three min_three max_four min_four
mutual
def impl_treeOk.j0 : Nat → Int → Bool → ByteArray → List ByteArray → List (S27) → Option (Bool)
 | 0, _, _, _, _, _ => none
 | k + 1, x1, x28, agw, a9l, a9m => if x28 = true then (some false) else (impl_treeOk.l0 k x1 a9l (a9l.length : Int) 0 agw a9l a9m)
def impl_treeOk.l0 : Nat → Int → List ByteArray → Int → Int → ByteArray → List ByteArray → List (S27) → Option (Bool)
 | 0, _, _, _, _, _, _, _ => none
 | k + 1, x1, x30, x31, x32, agw, a9l, a9m => if x32 < x31 then (if 0 ≤ x32 then (if x32 < (x30.length : Int) then ((impl_isName.f k (rdOf ByteArray.empty x30 x32)).bind fun agx => (if agx = true then (impl_treeOk.l0 k x1 x30 x31 (wrap64 (x32 + 1)) agw a9l a9m) else (some false))) else (none)) else (none)) else (impl_treeOk.l1 k x1 a9m (a9m.length : Int) 0)
def impl_treeOk.l1 : Nat → Int → List (S27) → Int → Int → Option (Bool)
 | 0, _, _, _, _ => none
 | k + 1, x1, x41, x42, x43 => if x43 < x42 then (if 0 ≤ x43 then (if x43 < (x41.length : Int) then ((impl_treeOk.f k ((rd_T27 x41 x43).f0) ((rd_T27 x41 x43).f1) ((rd_T27 x41 x43).f2) (wrap64 (x1 - 1))).bind fun ia => (if ia = true then (impl_treeOk.l1 k x1 x41 x42 (wrap64 (x43 + 1))) else (some false))) else (none)) else (none)) else (some true)
def impl_treeOk.f : Nat → ByteArray → List ByteArray → List (S27) → Int → Option (Bool)
 | 0, _, _, _, _ => none
 | k + 1, ae, ac, ab, a1 => if a1 < 1 then (impl_treeOk.j0 k a1 true ae ac ab) else ((impl_isName.f k ae).bind fun pl => (if pl = true then (if (ac.length : Int) > 6 then (impl_treeOk.j0 k a1 true ae ac ab) else (impl_treeOk.j0 k a1 (decide ((ab.length : Int) > 12)) ae ac ab)) else (impl_treeOk.j0 k a1 true ae ac ab)))
end
theorem impl_treeOk.mono_l : ∀ k, (∀ y0 y1 y2 y3, LeO (impl_treeOk.f k y0 y1 y2 y3) (impl_treeOk.f (k + 1) y0 y1 y2 y3)) ∧ (∀ y0 y1 y2 y3 y4, LeO (impl_treeOk.j0 k y0 y1 y2 y3 y4) (impl_treeOk.j0 (k + 1) y0 y1 y2 y3 y4)) ∧ (∀ y0 y1 y2 y3 y4 y5 y6, LeO (impl_treeOk.l0 k y0 y1 y2 y3 y4 y5 y6) (impl_treeOk.l0 (k + 1) y0 y1 y2 y3 y4 y5 y6)) ∧ (∀ y0 y1 y2 y3, LeO (impl_treeOk.l1 k y0 y1 y2 y3) (impl_treeOk.l1 (k + 1) y0 y1 y2 y3))
 | 0 => ⟨fun _ _ _ _ r h => by simp [impl_treeOk.f] at h, fun _ _ _ _ _ r h => by simp [impl_treeOk.j0] at h, fun _ _ _ _ _ _ _ r h => by simp [impl_treeOk.l0] at h, fun _ _ _ _ r h => by simp [impl_treeOk.l1] at h⟩
 | k + 1 => by
  obtain ⟨ih0, ih1, ih2, ih3⟩ := impl_treeOk.mono_l k; refine ⟨?_, ?_, ?_, ?_⟩
  all_goals
   intros
   first | unfold impl_treeOk.f | unfold impl_treeOk.j0 | unfold impl_treeOk.l0 | unfold impl_treeOk.l1
   repeat' first
   | (with_reducible exact ih0 _ _ _ _)
   | (with_reducible exact ih1 _ _ _ _ _)
   | (with_reducible exact ih2 _ _ _ _ _ _ _)
   | (with_reducible exact ih3 _ _ _ _)
   | (with_reducible exact impl_isName.mono _ _)
   | (with_reducible exact LeO.refl _)
   | (with_reducible exact LeO.none _)
   | (with_reducible refine LeO.ite ?_ ?_)
   | (with_reducible refine LeO.bind ?_ (fun _ => ?_))
   | exact ih0 _ _ _ _
   | exact ih1 _ _ _ _ _
   | exact ih2 _ _ _ _ _ _ _
   | exact ih3 _ _ _ _
   | exact impl_isName.mono _ _
   | exact LeO.none _
   | refine LeO.ite ?_ ?_
   | refine LeO.bind ?_ (fun _ => ?_)
theorem impl_treeOk.mono : ∀ a0 a1 a2 a3 k, LeO (impl_treeOk.f k a0 a1 a2 a3) (impl_treeOk.f (k + 1) a0 a1 a2 a3) := by
 intro a0 a1 a2 a3 k; obtain ⟨ih0, ih1, ih2, ih3⟩ := impl_treeOk.mono_l k; exact ih0 a0 a1 a2 a3
set_option maxHeartbeats 8000000 in
set_option maxRecDepth 100000 in
theorem impl_treeOk.calls (k : Nat) : ∀ (ae : ByteArray) (am : Option Addr) (an : Nat) (ac : List ByteArray) (ar : Option Addr) (ao : Nat) (ab : List (S27)) (a1 : Int) (r : Bool) (w : World) (hr0_1 : Kd.C Kd.string w am ac.length ac) (hc0_1 : ac.length ≤ an) (hr0_2 : Kd.C k27 w ar ab.length ab) (hc0_2 : ab.length ≤ ao) (h : impl_treeOk.f k ae ac ab a1 = some r),
 Calls Try.prog 50 #[.agg #[.string ae, .slice am ac.length an, .slice ar ab.length ao], .int .i64 a1] w fun e w' => e = .returned (.bool r) ∧ Below w.heap.size w w' := by
 induction k using Nat.strongRecOn with
 | _ k ih =>
 intro ae am an ac ar ao ab a1 r w hr0_1 hc0_1 hr0_2 hc0_2 h
 cases k with
 | zero => exact absurd h (by simp [impl_treeOk.f])
 | succ k =>
 simp only [impl_treeOk.f] at h; have hu27 := Try.underlying27; have du := Aside0.mk hr0_1; have eb := Aside0.mk hc0_1; clear hr0_1 hc0_1; have dk := Aside0.mk hr0_2; have ef := Aside0.mk hc0_2; clear hr0_2 hc0_2; have HB := Aside0.mk (Below.refl w.heap.size w); have H : (if a1 < 1 then (impl_treeOk.j0 k a1 true ae ac ab) else ((impl_isName.f k ae).bind fun pl => (if pl = true then (if (ac.length : Int) > 6 then (impl_treeOk.j0 k a1 true ae ac ab) else (impl_treeOk.j0 k a1 (decide ((ab.length : Int) > 12)) ae ac ab)) else (impl_treeOk.j0 k a1 true ae ac ab)))) = some r := h; clear h; have HC3 := Aside0.mk H; clear H
 go_enter Try.func50, Try.ntmps50
 go_upto_region 1 with (first | ((with_reducible refine gate_dst (N := 2) rfl ?_); (try (refine gate_guard (by rfl) ?_; dsimp only)); refine box_event ?hg (N := 2) ?hd (cs := #[.string ae, .slice am ac.length an, .slice ar ab.length ao]) (t := 27) ?hr ?_; (case hd => rfl); (case hg => rfl); (case hr => first | (go_simp; done) | (go_simp; rfl)); intro pm hg w4 hbox hb; have eo := ak hbox; have b3y := ak ((z_3 HB.out : w.heap.size ≤ pm)); have ij := ak ((z_3 HB.out : w.heap.size ≤ pm)); replace HB := ak (below_step (z_4 HB.out) hb); clear hb hbox hg))
 (try simp only [Act.put, List.setIfInBounds_toArray, List.set_cons_zero, List.set_cons_succ])
 go_cut [28] (fun v28 wc => ∃ (kq : Nat) (aef : Bool), v28 = .bool aef ∧ Aside0 (impl_treeOk.j0 kq a1 aef ae ac ab = some r) ∧ Aside0 (kq ≤ k) ∧ Aside0 (wc.heap[pm]? = some (.cells #[.string ae, (.slice am ac.length an), (.slice ar ab.length ao)] 27 (0, 0))) ∧ Aside0 (Below w.heap.size w wc))
 case first =>
  have H := HC3.out; clear HC3
  by_cases c5 : a1 < 1
  ·rw [if_pos c5] at H; have kz := decide_eq_true c5; clear c5; (first | rw [kz] | (simp only [i64_w, i32_w]; rw [kz]) | skip); have H' := Aside0.mk H; clear H; go_wp2
   go_meet
   case rel => exact ⟨_, (true), z_6, H', ⟨z_19⟩, ⟨z_8 eo.out⟩, ⟨z_5 HB.out ij.out⟩⟩
  ·rw [if_neg c5] at H; have kz := decide_eq_false c5; clear c5; (first | rw [kz] | (simp only [i64_w, i32_w]; rw [kz]) | skip); replace H := Option.bind_eq_some_iff.mp H; obtain ⟨pl, ii, H⟩ := H; have A6 := Aside0.mk ii; clear ii
   by_cases c7 : pl = true
   ·subst c7; rw [if_pos rfl] at H
    by_cases c8 : (ac.length : Int) > 6
    ·rw [if_pos c8] at H; have ky : decide (6 < (ac.length : Int)) = true := decide_eq_true c8; have a9c : decide (6 < ac.length) = true := decide_eq_true (by omega); clear c8; have H' := Aside0.mk H; clear H; obtain ⟨tp, tq, tr, ts, tt, tu⟩ := cf eo.out; go_wp2_with (first | (go_at_call 56; (with_reducible refine (impl_isName.calls k ae true _ A6.out).mono ?_); rintro e qf ⟨rfl, hb⟩; replace eo := bb eo hb; replace HB := ak (below_step (z_5 HB.out ij.out) hb); (try clear hb); (try clear hb2); (try clear hk); (try clear hi); have tv := bc eo.out 0; have tw := bc eo.out 1; have tx := bc eo.out 2; have vv := blk_frozen eo.out 0; have vw := blk_frozen eo.out 1; have vx := blk_frozen eo.out 2))
     go_meet
     case rel => exact ⟨_, (true), z_6, H', ⟨z_19⟩, ⟨z_8 eo.out⟩, ⟨z_5 HB.out ij.out⟩⟩
    ·rw [if_neg c8] at H; have ky : decide (6 < (ac.length : Int)) = false := decide_eq_false c8; have a9c : decide (6 < ac.length) = false := decide_eq_false (by omega); clear c8; have H' := Aside0.mk H; clear H; obtain ⟨nx, nz, oa, ob, oc, od⟩ := cf eo.out; go_wp2_with (first | (go_at_call 56; (with_reducible refine (impl_isName.calls k ae true _ A6.out).mono ?_); rintro e w13 ⟨rfl, hb⟩; replace eo := bb eo hb; replace HB := ak (below_step (z_5 HB.out ij.out) hb); (try clear hb); (try clear hb2); (try clear hk); (try clear hi); have qz := bc eo.out 0; have ra := bc eo.out 1; have rc := bc eo.out 2; have re := blk_frozen eo.out 0; have rf := blk_frozen eo.out 1; have rg := blk_frozen eo.out 2))
     go_meet
     case rel => exact ⟨_, (decide ((ab.length : Int) > 12)), z_6, H', ⟨z_19⟩, ⟨z_8 eo.out⟩, ⟨z_5 HB.out ij.out⟩⟩
   ·replace c7 := Bool.eq_false_iff.mpr c7; subst c7; rw [if_neg (show ¬ (false = true) by decide)] at H; have H' := Aside0.mk H; clear H; obtain ⟨a0p, a0q, a0r, a0s, a0t, a0u⟩ := cf eo.out; go_wp2_with (first | (go_at_call 56; (with_reducible refine (impl_isName.calls k ae false _ A6.out).mono ?_); rintro e w16 ⟨rfl, hb⟩; replace eo := bb eo hb; replace HB := ak (below_step (z_5 HB.out ij.out) hb); (try clear hb); (try clear hb2); (try clear hk); (try clear hi)))
    go_meet
    case rel => exact ⟨_, (true), z_6, H', ⟨z_19⟩, ⟨z_8 eo.out⟩, ⟨z_5 HB.out ij.out⟩⟩
 case rest =>
  clear HC3; (try clear c5); (try clear kz); (try clear c7); (try clear c8); (try clear ky); (try clear a9c); (try clear tv); (try clear tw); (try clear tx); (try clear nx); (try clear nz); (try clear oa); (try clear qz); (try clear ra); (try clear rc); (try clear a0p); (try clear a0q); (try clear a0r); (try clear tp); (try clear tq); (try clear tr); (try clear vv); (try clear vw); (try clear vx); (try clear ob); (try clear oc); (try clear od); (try clear re); (try clear rf); (try clear rg); (try clear a0s); (try clear a0t); (try clear a0u); (try clear ts); (try clear tt); (try clear tu); obtain ⟨kq, aef, rfl, HA, HJ2, eo, HB⟩ := hcut
  cases kq with
  | zero => exact absurd HA.out (by simp [impl_treeOk.j0])
  | succ kj2 =>
   have H := HA.out; clear HA; simp only [impl_treeOk.j0] at H
   by_cases iw : aef = true
   ·subst iw; rw [if_pos rfl] at H; obtain rfl := Option.some.inj H; go_wp2; go_ret; exact ⟨z_17, z_5 HB.out ij.out⟩
   ·replace iw := Bool.eq_false_iff.mpr iw; subst iw; rw [if_neg (show ¬ (false = true) by decide)] at H; have H' := Aside0.mk H; clear H; obtain ⟨xm, xn, xo, xp, xq, xr⟩ := cf eo.out; go_wp2
    go_loopg [32] kj2 (fun kq v32 w' => ∃ (oe : Int), v32 = .int .i64 oe ∧ Aside0 (impl_treeOk.l0 kq a1 ac (ac.length : Int) oe ae ac ab = some r) ∧ Aside0 (kq ≤ kj2) ∧ Aside0 (w'.heap[pm]? = some (.cells #[.string ae, (.slice am ac.length an), (.slice ar ab.length ao)] 27 (0, 0))) ∧ Aside0 (Below w.heap.size w w'))
    case atStart => exact ⟨(0), z_6, H', ⟨Nat.le_refl _⟩, ⟨z_8 eo.out⟩, ⟨z_5 HB.out ij.out⟩⟩
    case round =>
     clear H'; (try clear c5); (try clear kz); (try clear c7); (try clear c8); (try clear ky); (try clear a9c); (try clear iw); (try clear tv); (try clear tw); (try clear tx); (try clear nx); (try clear nz); (try clear oa); (try clear qz); (try clear ra); (try clear rc); (try clear a0p); (try clear a0q); (try clear a0r); (try clear xm); (try clear xn); (try clear xo); (try clear tp); (try clear tq); (try clear tr); (try clear vv); (try clear vw); (try clear vx); (try clear ob); (try clear oc); (try clear od); (try clear re); (try clear rf); (try clear rg); (try clear a0s); (try clear a0t); (try clear a0u); (try clear xp); (try clear xq); (try clear xr); (try clear ts); (try clear tt); (try clear tu); obtain ⟨oe, rfl, HA, HK2, eo, HB⟩ := hrel
     cases gk with
     | zero => exact absurd HA.out (by simp [impl_treeOk.l0])
     | succ k2 =>
      have H := HA.out; clear HA; simp only [impl_treeOk.l0] at H
      by_cases sk : oe < (ac.length : Int)
      ·rw [if_pos sk] at H; have am1 := decide_eq_true sk; clear sk
       by_cases lz : 0 ≤ oe
       ·rw [if_pos lz] at H; have agy := decide_eq_true lz; clear lz
        by_cases ib : oe < (ac.length : Int)
        ·rw [if_pos ib] at H; have a6c := decide_eq_true ib; clear ib; replace H := Option.bind_eq_some_iff.mp H; obtain ⟨agx, am2, H⟩ := H; have A22 := Aside0.mk am2; clear am2
         by_cases ty : agx = true
         ·subst ty; rw [if_pos rfl] at H; have H' := Aside0.mk H; clear H; have rh : 0 ≤ (oe : Int) := of_decide_eq_true z_9; have ri : oe < (ac.length : Int) := of_decide_eq_true z_9; obtain ⟨agz, a9n, vy⟩ := Kd.at_string du.out oe rh ri; cases a9n; replace vy := (HB.out.cell (World.block_lt_of_cell? w _ vy)).trans vy; replace rh := eq_true rh; replace ri := eq_true ri; go_wp2_with (first | ((with_reducible refine gate_callee (f := 56) rfl ?_); refine gl_ 37 Try.func56 #[.string (rdOf ByteArray.empty ac oe)] ?_; (with_reducible refine (impl_isName.calls k2 (rdOf ByteArray.empty ac oe) true _ A22.out).mono ?_); rintro e w24 ⟨rfl, hb⟩; refine ⟨_, rfl, ?_⟩; replace eo := bb eo hb; replace HB := ak (below_step (z_5 HB.out ij.out) hb); (try clear hb); (try clear hb2); (try clear hk); (try clear hi))); go_roundg k2
          case measure => have := HJ2.out; have := HK2.out; omega
          case rel => exact ⟨(wrap64 (oe + 1)), z_6, H', ⟨z_20 HJ2.out HK2.out⟩, ⟨z_8 eo.out⟩, ⟨z_5 HB.out ij.out⟩⟩
         ·replace ty := Bool.eq_false_iff.mpr ty; subst ty; rw [if_neg (show ¬ (false = true) by decide)] at H; obtain rfl := Option.some.inj H; have rh : 0 ≤ (oe : Int) := of_decide_eq_true z_9; have ri : oe < (ac.length : Int) := of_decide_eq_true z_9; obtain ⟨agz, a9n, vy⟩ := Kd.at_string du.out oe rh ri; cases a9n; replace vy := (HB.out.cell (World.block_lt_of_cell? w _ vy)).trans vy; replace rh := eq_true rh; replace ri := eq_true ri; go_wp2_with (first | ((with_reducible refine gate_callee (f := 56) rfl ?_); refine gl_ 37 Try.func56 #[.string (rdOf ByteArray.empty ac oe)] ?_; (with_reducible refine (impl_isName.calls k2 (rdOf ByteArray.empty ac oe) false _ A22.out).mono ?_); rintro e w25 ⟨rfl, hb⟩; refine ⟨_, rfl, ?_⟩; replace eo := bb eo hb; replace HB := ak (below_step (z_5 HB.out ij.out) hb); (try clear hb); (try clear hb2); (try clear hk); (try clear hi))); go_ret; exact ⟨z_17, z_5 HB.out ij.out⟩
        ·rw [if_neg ib] at H; exact absurd H (by simp)
       ·rw [if_neg lz] at H; exact absurd H (by simp)
      ·rw [if_neg sk] at H; have am1 := decide_eq_false sk; clear sk; have H' := Aside0.mk H; clear H; obtain ⟨am3, am4, am5, am6, am7, am8⟩ := cf eo.out; go_wp2
       go_loopg [43] k2 (fun kq v43 w' => ∃ (fw : Int), v43 = .int .i64 fw ∧ Aside0 (impl_treeOk.l1 kq a1 ab (ab.length : Int) fw = some r) ∧ Aside0 (kq ≤ k2) ∧ Aside0 (w'.heap[pm]? = some (.cells #[.string ae, (.slice am ac.length an), (.slice ar ab.length ao)] 27 (0, 0))) ∧ Aside0 (Below w.heap.size w w'))
       case atStart => exact ⟨(0), z_6, H', ⟨Nat.le_refl _⟩, ⟨z_8 eo.out⟩, ⟨z_5 HB.out ij.out⟩⟩
       case round =>
        clear H'; (try clear c5); (try clear kz); (try clear c7); (try clear c8); (try clear ky); (try clear a9c); (try clear iw); (try clear sk); (try clear am1); (try clear lz); (try clear agy); (try clear ib); (try clear a6c); (try clear ty); (try clear tv); (try clear tw); (try clear tx); (try clear nx); (try clear nz); (try clear oa); (try clear qz); (try clear ra); (try clear rc); (try clear a0p); (try clear a0q); (try clear a0r); (try clear xm); (try clear xn); (try clear xo); (try clear am3); (try clear am4); (try clear am5); (try clear tp); (try clear tq); (try clear tr); (try clear vv); (try clear vw); (try clear vx); (try clear ob); (try clear oc); (try clear od); (try clear re); (try clear rf); (try clear rg); (try clear a0s); (try clear a0t); (try clear a0u); (try clear xp); (try clear xq); (try clear xr); (try clear am6); (try clear am7); (try clear am8); (try clear ts)
        (try clear tt); (try clear tu); (try clear vy); (try clear rh); (try clear ri); obtain ⟨fw, rfl, HA, HK3, eo, HB⟩ := hrel
        cases gk with
        | zero => exact absurd HA.out (by simp [impl_treeOk.l1])
        | succ k3 =>
         have H := HA.out; clear HA; simp only [impl_treeOk.l1] at H
         by_cases ma : fw < (ab.length : Int)
         ·rw [if_pos ma] at H; have a9o := decide_eq_true ma; clear ma
          by_cases xt : 0 ≤ fw
          ·rw [if_pos xt] at H; have at0 := decide_eq_true xt; clear xt
           by_cases og : fw < (ab.length : Int)
           ·rw [if_pos og] at H; have ah0 := decide_eq_true og; clear og; replace H := Option.bind_eq_some_iff.mp H; obtain ⟨ia, a9p, H⟩ := H; have gy := Aside0.mk a9p; clear a9p
            by_cases ov : ia = true
            ·subst ov; rw [if_pos rfl] at H; have H' := Aside0.mk H; clear H; have a2s : 0 ≤ (fw : Int) := of_decide_eq_true z_9; have a2t : fw < (ab.length : Int) := of_decide_eq_true z_9; obtain ⟨a2u, a2v, a2w, a9q, a9r, ah1, a2x, a2y, a2z, a9s, a9t, a9u, a9v⟩ := at_T27 dk.out fw a2s a2t; cases ah1; replace a2x := (HB.out.cell (World.block_lt_of_cell? w _ a2x)).trans a2x; replace a2y := (HB.out.cell (World.block_lt_of_cell? w _ a2y)).trans a2y; replace a2z := (HB.out.cell (World.block_lt_of_cell? w _ a2z)).trans a2z; have ah2 := Aside0.mk a9t; have ah3 := Aside0.mk a9s; clear a9t a9s; have ah4 := Aside0.mk a9v; have ah5 := Aside0.mk a9u; clear a9v a9u; replace a2s := eq_true a2s; replace a2t := eq_true a2t; go_wp2_with (first | ((with_reducible refine gate_dst (N := 8) rfl ?_); (try (refine gate_guard (by rfl) ?_; dsimp only)); refine box_event ?hg (N := 8) ?hd (cs := #[.string (⟨#[]⟩ : ByteArray), .slice none 0 0, .slice none 0 0]) (t := 27) ?hr ?_; (case hd => rfl); (case hg => rfl); (case hr => first | (go_simp; done) | (go_simp; rfl)); intro ua hg w32 hbox hb; have oh := ak hbox; have at1 := ak ((z_10 HB.out ij.out : w.heap.size ≤ ua)); have xu := ak ((z_10 HB.out ij.out : w.heap.size ≤ ua)); replace HB := ak (below_step (z_5 HB.out ij.out) hb); have xv := ak ((z_21 eo.out : pm ≠ ua)); have ah6 := ak ((z_22 eo.out : ua ≠ pm)); replace eo := bb eo hb; clear hb hbox hg; have b3z := ah6.out; have b4a := xv.out; have b4b := bc oh.out 0; have b4c := bc oh.out 1; have b4d := bc oh.out 2; have b4e := blk_frozen oh.out 0; have b4f := blk_frozen oh.out 1; have b4g := blk_frozen oh.out 2) | ((with_reducible refine gate_callee (f := 50) rfl ?_); refine gl_ 50 Try.func50 #[.agg #[.string ((rd_T27 ab fw).f0), .slice a2v ((rd_T27 ab fw).f1).length a2w, .slice a9q ((rd_T27 ab fw).f2).length a9r], .int .i64 (wrap64 (a1 - 1))] ?_; refine (ih k3 (z_23 HJ2.out HK2.out HK3.out) ((rd_T27 ab fw).f0) _ _ ((rd_T27 ab fw).f1) _ _ ((rd_T27 ab fw).f2) (wrap64 (a1 - 1)) true _ (Kd.C_below ah2.out (z_11 HB.out ij.out xu.out)) ah3.out (Kd.C_below ah4.out (z_11 HB.out ij.out xu.out)) ah5.out gy.out).mono ?_; rintro e w35 ⟨rfl, hb⟩; refine ⟨_, rfl, ?_⟩; replace eo := ak (blk_below (g := pm) (o := .cells #[.string ae, .slice am ac.length an, .slice (some a2u) ab.length ao] 27 (0, 0)) (z_13 xv.out eo.out) hb); replace oh := ak (blk_below (g := ua) (o := .cells #[.string ((rd_T27 ab fw).f0), .slice a2v ((rd_T27 ab fw).f1).length a2w, .slice a9q ((rd_T27 ab fw).f2).length a9r] 27 (0, 0)) (z_24 oh.out) hb); replace HB := ak (below_step (z_11 HB.out ij.out xu.out) hb); (try clear hb); (try clear hb2); (try clear hk); (try clear hi)))
             go_roundg k3
             case measure => have := HJ2.out; have := HK2.out; have := HK3.out; omega
             case rel => exact ⟨(wrap64 (fw + 1)), z_6, H', ⟨z_23 HJ2.out HK2.out HK3.out⟩, ⟨z_8 eo.out⟩, ⟨z_11 HB.out ij.out xu.out⟩⟩
            ·replace ov := Bool.eq_false_iff.mpr ov; subst ov; rw [if_neg (show ¬ (false = true) by decide)] at H; obtain rfl := Option.some.inj H; have a2s : 0 ≤ (fw : Int) := of_decide_eq_true z_9; have a2t : fw < (ab.length : Int) := of_decide_eq_true z_9; obtain ⟨a2u, a2v, a2w, a9q, a9r, ah1, a2x, a2y, a2z, a9s, a9t, a9u, a9v⟩ := at_T27 dk.out fw a2s a2t; cases ah1; replace a2x := (HB.out.cell (World.block_lt_of_cell? w _ a2x)).trans a2x; replace a2y := (HB.out.cell (World.block_lt_of_cell? w _ a2y)).trans a2y; replace a2z := (HB.out.cell (World.block_lt_of_cell? w _ a2z)).trans a2z; have ah2 := Aside0.mk a9t; have ah3 := Aside0.mk a9s; clear a9t a9s; have ah4 := Aside0.mk a9v; have ah5 := Aside0.mk a9u; clear a9v a9u; replace a2s := eq_true a2s; replace a2t := eq_true a2t; go_wp2_with (first | ((with_reducible refine gate_dst (N := 8) rfl ?_); (try (refine gate_guard (by rfl) ?_; dsimp only)); refine box_event ?hg (N := 8) ?hd (cs := #[.string (⟨#[]⟩ : ByteArray), .slice none 0 0, .slice none 0 0]) (t := 27) ?hr ?_; (case hd => rfl); (case hg => rfl); (case hr => first | (go_simp; done) | (go_simp; rfl)); intro ua hg w36 hbox hb; have oh := ak hbox; have at1 := ak ((z_10 HB.out ij.out : w.heap.size ≤ ua)); have xu := ak ((z_10 HB.out ij.out : w.heap.size ≤ ua)); replace HB := ak (below_step (z_5 HB.out ij.out) hb); have xv := ak ((z_21 eo.out : pm ≠ ua)); have ah6 := ak ((z_22 eo.out : ua ≠ pm)); replace eo := bb eo hb; clear hb hbox hg; have b4h := ah6.out; have b4i := xv.out; have at2 := bc oh.out 0; have at3 := bc oh.out 1; have at4 := bc oh.out 2; have at5 := blk_frozen oh.out 0; have at6 := blk_frozen oh.out 1; have at7 := blk_frozen oh.out 2) | ((with_reducible refine gate_callee (f := 50) rfl ?_); refine gl_ 50 Try.func50 #[.agg #[.string ((rd_T27 ab fw).f0), .slice a2v ((rd_T27 ab fw).f1).length a2w, .slice a9q ((rd_T27 ab fw).f2).length a9r], .int .i64 (wrap64 (a1 - 1))] ?_; refine (ih k3 (z_23 HJ2.out HK2.out HK3.out) ((rd_T27 ab fw).f0) _ _ ((rd_T27 ab fw).f1) _ _ ((rd_T27 ab fw).f2) (wrap64 (a1 - 1)) false _ (Kd.C_below ah2.out (z_11 HB.out ij.out xu.out)) ah3.out (Kd.C_below ah4.out (z_11 HB.out ij.out xu.out)) ah5.out gy.out).mono ?_; rintro e w39 ⟨rfl, hb⟩; refine ⟨_, rfl, ?_⟩; replace eo := ak (blk_below (g := pm) (o := .cells #[.string ae, .slice am ac.length an, .slice (some a2u) ab.length ao] 27 (0, 0)) (z_13 xv.out eo.out) hb); replace oh := ak (blk_below (g := ua) (o := .cells #[.string ((rd_T27 ab fw).f0), .slice a2v ((rd_T27 ab fw).f1).length a2w, .slice a9q ((rd_T27 ab fw).f2).length a9r] 27 (0, 0)) (z_24 oh.out) hb); replace HB := ak (below_step (z_11 HB.out ij.out xu.out) hb); (try clear hb); (try clear hb2); (try clear hk); (try clear hi)))
             go_ret; exact ⟨z_17, z_11 HB.out ij.out xu.out⟩
           ·rw [if_neg og] at H; exact absurd H (by simp)
          ·rw [if_neg xt] at H; exact absurd H (by simp)
         ·rw [if_neg ma] at H; have a9o := decide_eq_false ma; clear ma; obtain rfl := Option.some.inj H; go_wp2; go_ret; exact ⟨z_17, z_5 HB.out ij.out⟩
def impl_copyTexts.f (l0 : List ByteArray) : Option (List ByteArray) := (some (([] : List ByteArray) : List ByteArray)).bind fun uc => (if uc.length + l0.length < 8796093022208 then (some (uc ++ l0)) else (none))
set_option maxHeartbeats 8000000 in
set_option maxRecDepth 100000 in
theorem impl_copyTexts.calls (A0 : Option Addr) (c0 : Nat) (l0 : List ByteArray) (r : List ByteArray) (w : World) (hr0 : Kd.C Kd.string w A0 l0.length l0) (hc0 : l0.length ≤ c0) (h : impl_copyTexts.f l0 = some r) :
 Calls Try.prog 57 #[.slice A0 l0.length c0] w fun e w' => ∃ v0_ : Value, e = .returned (v0_) ∧ Kd.R Kd.string 9 w' w.heap.size (fun _ => True) v0_ r ∧ Below w.heap.size w w' := by
 have hh := Aside0.mk hr0; have lw := Aside0.mk hc0; clear hr0 hc0; have HB := Aside0.mk (Below.refl w.heap.size w); have H : ((some (([] : List ByteArray) : List ByteArray)).bind fun uc => (if uc.length + l0.length < 8796093022208 then (some (uc ++ l0)) else (none))) = some r := h; clear h; obtain ⟨uc, a9w⟩ : ∃ y_ : List ByteArray, y_ = (([] : List ByteArray)) := ⟨_, rfl⟩; replace H : (if uc.length + l0.length < 8796093022208 then (some (uc ++ l0)) else (none)) = some r := by first | (rw [a9w]; with_reducible exact H) | (have H2_ := (Option.bind_some _ _).symm.trans H; rw [a9w]; with_reducible exact H2_) | (have H2_ := (Option.bind_some _ _).symm.trans H; with_reducible exact H2_) | with_reducible exact H | (rw [a9w]; exact H) | exact H
 have am9 := Aside0.mk a9w; clear a9w
 by_cases c2 : uc.length + l0.length < 8796093022208
 ·rw [if_pos c2] at H; have at8 := Aside0.mk c2; clear c2; obtain ⟨at9, a9x⟩ : ∃ y_ : List ByteArray, y_ = (uc ++ l0) := ⟨_, rfl⟩; replace H : (some at9) = some r := by first | (rw [a9x]; with_reducible exact H) | (have H2_ := (Option.bind_some _ _).symm.trans H; rw [a9x]; with_reducible exact H2_) | (have H2_ := (Option.bind_some _ _).symm.trans H; with_reducible exact H2_) | with_reducible exact H | (rw [a9x]; exact H) | exact H
  have ata := Aside0.mk a9x; clear a9x; obtain rfl := Option.some.inj H
  go_enter Try.func57, Try.ntmps57
  go_wp2_with (first | ((with_reducible refine gate_dst (N := 3) rfl ?_); refine Kd.R_lit Kd.string _ 9 ?hg (N := 3) ?hd (xs := ([] : List ByteArray)) (inner := []) (ok := fun _ => True) (okp := fun _ => True) ?hr ?hp (fun _ hk => hk) trivial (Below.refl _ _) (Nat.le_refl _) (by simp) ?_; (case hd => rfl); (case hg => rfl); (case hr => first | (go_simp; done) | (go_simp; rfl)); (case hp => exact (Reps.none _ _)); intro atb w3 kl hb hg_ hnew_; clear hg_ hnew_; (first | rw [← am9.out] at kl | (simp only [Int.reduceToNat] at kl; rw [← am9.out] at kl)); have ama := ak (Kd.R_lower kl (below_size (z_4 HB.out))); replace HB := ak (below_step (z_4 HB.out) hb); clear hb kl) | ((with_reducible refine gate_builtin (b := .append) (xs := #[.tmp 3, .tmp 4]) rfl ?_); at_builtin; refine Kd.R_append_rows Kd.string (w0 := w) w.heap.size rfl (.tmp 3) (.tmp 4) 24 9 (.string ⟨#[]⟩) 16 rfl Try.underlying24 info9 rfl (by decide) (by omega) atb uc l0 _ _ _ (fun _ => True) (fun _ => False) rfl rfl ?aO ?aR (fun _ _ h => h) (fun _ h => h.elim) ?aF ?aB ?aS ?aL ?_; (case aR => exact (by repeat (first | exact (Kd.C_below hh.out HB.out) | (with_reducible refine Kd.C_alloc ?_ _) | (with_reducible refine Kd.C_drewN ?_ _) | (with_reducible refine Kd.C_drew ?_)))); (case aB => exact z_4 HB.out); (case aF => exact (fun _ _ => trivial)); (case aO => exact z_7 ama.out); (case aS => exact (below_size (z_4 HB.out))); (case aL => have := at8.out; omega); intro b4j w5 ho hb hg hat; rw [← ata.out] at ho; replace HB := ak hb; have atc := ak ho; clear ama; clear ho hb hg hat))
  go_ret; exact ⟨_, z_17, z_7 atc.out, z_4 HB.out⟩
 ·rw [if_neg c2] at H; exact absurd H (by simp)
def impl_unlike.f (a0 : List ByteArray) : Option Bool := if a0.length < 8796093022208 then some (decide (a0.map fun s => s.data.toList).Nodup) else none
section
open Go.Sort
theorem own_strs {w : World} {base : Nat} {ok : Nat → Prop} {v : Value} {xs : List ByteArray} (h : Kd.R Kd.string 9 w base ok v xs) : w.ownsRow base 9 1 v xs.length ((xs.map fun s => s.data.toList).map encStr) := by
 obtain ⟨_, inner, h1, h2, h3⟩ := h
 have : inner = (xs.map fun s => s.data.toList).map encStr := by
  apply List.ext_getElem
  ·simp only [List.length_map]; exact h2.trans (Nat.mul_one _)
  ·intro j hj hj'; have hj2 : j < xs.length := by simpa using hj'
   have h4 : List.take 1 (List.drop (j * 1) inner) = [Value.string xs[j]] := h3 j xs[j] (List.getElem?_eq_getElem hj2); rw [Nat.mul_one, List.drop_eq_getElem_cons hj] at h4; simp only [List.take_succ_cons, List.take_zero, List.cons.injEq, and_true] at h4; rw [h4]
   simp [encStr]
 rw [← this]; exact h1
theorem adj_nodup : ∀ l : List (List UInt8), l.Pairwise (· ≤ ·) → ((∀ j, j + 1 < l.length → l[j + 1]! ≠ l[j]!) ↔ l.Nodup) := by
 intro l
 induction l with
 | nil => intro _; simp
 | cons a t ih =>
  intro h; rw [List.pairwise_cons] at h; rw [List.nodup_cons, ← ih h.2]
  constructor
  ·intro hj
   refine ⟨fun ha => ?_, fun j hjl => ?_⟩
   ·cases t with
    | nil => cases ha
    | cons b u =>
     have h1 : b ≠ a := by simpa using hj 0 (by simp)
     have h2 : a ≤ b := h.1 b (by simp)
     have h3 : b ≤ a := by
      rcases List.mem_cons.mp ha with rfl | hm
      ·exact h2
      ·exact (List.pairwise_cons.mp h.2).1 a hm
     exact h1 (List.le_antisymm h3 h2)
   ·have := hj (j + 1) (by simp; omega)
    simpa using this
  ·rintro ⟨ha, hj⟩ j hjl
   cases j with
   | zero =>
    cases t with
    | nil => simp at hjl
    | cons b u =>
     intro e
     apply ha
     have e2 : b = a := by simpa using e
     rw [← e2]; simp
   | succ j =>
    have := hj j (by simp at hjl; omega)
    simpa using this
theorem sorted_nodup (l : List (List UInt8)) : (Lib.compact (l.mergeSort fun x y => decide (x ≤ y))).length = l.length ↔ l.Nodup := by
 have hs : (l.mergeSort fun x y => decide (x ≤ y)).Pairwise (· ≤ ·) := by
  have := List.pairwise_mergeSort (le := fun x y : List UInt8 => decide (x ≤ y)) (fun a b c h1 h2 => by simp only [decide_eq_true_eq] at *; exact List.le_trans h1 h2) (fun a b => by simp only [Bool.or_eq_true, decide_eq_true_eq]; exact List.le_total a b) l; exact this.imp (by simp)
 have hp := List.mergeSort_perm l fun x y => decide (x ≤ y)
 rw [← hp.nodup_iff, ← adj_nodup _ hs, ← hp.length_eq]; generalize (l.mergeSort fun x y => decide (x ≤ y)) = m; unfold Lib.compact Lib.compactUpTo; rw [List.length_map]
 have h1 : ((List.range m.length).filter (Lib.keeps m.toArray)).length = m.length ↔ ∀ j ∈ List.range m.length, Lib.keeps m.toArray j = true := by
  rw [← List.filter_eq_self]
  constructor
  ·intro h; exact List.Sublist.eq_of_length List.filter_sublist (by simpa using h)
  ·intro h; rw [h]; simp
 rw [h1]
 constructor
 ·intro h j hj; have := h (j + 1) (by simpa using hj)
  simpa [Lib.keeps] using this
 ·intro h j hj
  cases j with
  | zero => simp [Lib.keeps]
  | succ j => have := h j (by simpa using hj); simpa [Lib.keeps] using this
theorem bool_len (a b : Nat) (p : Prop) [Decidable p] (h : a = b ↔ p) : ((a : Int) == (b : Int)) = decide p := by
 rw [Bool.eq_iff_iff]; simp only [beq_iff_eq, decide_eq_true_eq]; rw [← h]
 omega
set_option maxHeartbeats 1000000 in
theorem impl_unlike.calls (A0 : Option Addr) (c0 : Nat) (l0 : List ByteArray) (r : Bool) (w : World) (hr0 : Kd.C Kd.string w A0 l0.length l0) (hc0 : l0.length ≤ c0) (h : impl_unlike.f l0 = some r) :
 Calls Try.prog 51 #[.slice A0 l0.length c0] w fun e w' => e = .returned (.bool r) ∧ Below w.heap.size w w' := by
 unfold impl_unlike.f at h
 by_cases hl : l0.length < 8796093022208
 ·rw [if_pos hl] at h; obtain rfl := Option.some.inj h; have hcopy := impl_copyTexts.calls A0 c0 l0 l0 w hr0 hc0 (by simp [impl_copyTexts.f, hl]); have HC := Lib.hid hcopy; clear hcopy h hr0 hc0; generalize hn : l0.length = n at *; have hlen : (l0.map fun s => s.data.toList).length = n := by simp [hn]
  have HN := Lib.hid hn; have HL := Lib.hid hlen; have HF := Lib.hid (bool_len _ _ _ (sorted_nodup (l0.map fun s => s.data.toList))); clear hn hlen
  go_enter Try.func51, Try.ntmps51
  go_wp2_with fail; refine HC.out.mono ?_; rintro e w1 ⟨v1, rfl, hR, hbel⟩; have hown := own_strs hR; rw [HN.out] at hown; clear hR HC
  by_cases hnil : v1 = .slice none 0 0
  ·subst hnil
   have hz : n = 0 := by
    rcases hown.2 with ⟨_, h0⟩ | ⟨g, cap, cur, h0, _⟩
    ·exact h0
    ·cases h0
   subst hz; clear hown; obtain rfl : l0 = [] := List.length_eq_zero_iff.mp HN.out; clear HN HL HF; go_wp2_with fail; refine (Try.slices_Sort_string_none _ _ _).mono ?_; rintro e w2 ⟨rfl, rfl⟩; go_wp2_with fail; refine (Try.slices_Compact_string_empty _ _ _).mono ?_; rintro e w2 ⟨rfl, rfl⟩; go_wp2; go_ret; exact ⟨rfl, hbel⟩
  ·obtain ⟨g, cap, rfl, hbg, hgl, hncap, hcm, _, hH⟩ := Lib.holds_of_ownsRow hown hnil; have hsort := Try.slices_Sort_string g 0 cap _ w1 hH hgl (by rw [HL.out]; omega); rw [HL.out] at hsort; have HS := Lib.hid hsort; have X := Lib.hid (And.intro hbel hH); clear hsort hH hnil hown hbel; go_wp2_with fail; refine HS.out.mono ?_; rintro e w2 ⟨rfl, nn, os, rfl⟩; clear HS; have ud : ((l0.map fun s => s.data.toList).mergeSort fun x y => decide (x ≤ y)).length = n := by rw [List.length_mergeSort]; exact HL.out
   have hH2 := holds_grow encStr _ os g 0 _ (by simpa [putRow, mapBlock, Sort.ahead] using hgl) (holds_putRow encStr _ g 0 _ ((l0.map fun s => s.data.toList).mergeSort fun x y => decide (x ≤ y)).toArray (holds_ahead encStr w1 nn g 0 _ X.out.2) (by simp)); have hcomp := Try.slices_Compact_string g 0 cap _ _ hH2 (by rw [ud]; omega) (by rw [ud]; omega); rw [ud] at hcomp; have HM := Lib.hid hcomp; have H2 := Lib.hid ud; clear hcomp hH2 ud; have hgw : w1.grownBy (grow (putRow encStr (Sort.ahead w1 nn) g 0 ((l0.map fun s => s.data.toList).mergeSort fun x y => decide (x ≤ y)).toArray) os) (some g) := grownBy_sorted _; have HB2 := Lib.hid (X.out.1.grown hgw X.out.1.size (fun j hj => by cases hj; exact hbg)); clear hgw; generalize grow (putRow encStr (Sort.ahead w1 nn) g 0 ((l0.map fun s => s.data.toList).mergeSort fun x y => decide (x ≤ y)).toArray) os = w2 at *; go_wp2_with fail; refine HM.out.mono ?_; rintro e w3 ⟨rfl, q, rfl⟩
   go_wp2; go_ret; refine ⟨?_, Lib.below_putRow HB2.out hbg⟩; have z := HF.out; rw [HL.out] at z; rw [← z]
   rfl
 ·rw [if_neg hl] at h; cases h
end
end Go.Proofs.Ytdphpmejjlgpnaa.PFnTreesBent

