import Derived.Test.YtdphpmejjlgpnaaD0
import Derived.Test.YtdphpmejjlgpnaaD11
import Derived.Test.YtdphpmejjlgpnaaD13
import Derived.Test.YtdphpmejjlgpnaaDZ
set_option linter.unusedVariables false
set_option linter.unusedSimpArgs false
set_option linter.unusedSectionVars false
namespace Go.Proofs.Ytdphpmejjlgpnaa.PFnTreesBent
open Go.RowKit Go.Proofs.YtdphpmejjlgpnaaW.PrintWords Go.Proofs.YtdphpmejjlgpnaaW.PrintLast Go.Proofs.YtdphpmejjlgpnaaW.PrintMore Go.Proofs.Ytdphpmejjlgpnaa.Short
attribute [local go_sem] max2_int min2_int max_two min_two max_three min_three max_four min_four
def spec_l23Right.l0 : Nat → List ByteArray → List Int → Int → Option (Bool)
 | 0, _, _, _ => none
 | k + 1, x0, x1, x5 => if x5 < (x1.length : Int) then (if 0 ≤ x5 then ((spec_l1In.f (rd x1 x5) 0 32767).bind fun akc => (if akc = true then (spec_l23Right.l0 k x0 x1 (wrap64 (x5 + 1))) else (some false))) else (none)) else (some ((x0.length : Int) == (x1.length : Int)))
def spec_l23Right.f (k : Nat) (l0 : List ByteArray) (l1 : List Int) : Option (Bool) := spec_l23Right.l0 k l0 l1 0
theorem spec_l23Right.mono_l : ∀ k, (∀ y0 y1 y2, LeO (spec_l23Right.l0 k y0 y1 y2) (spec_l23Right.l0 (k + 1) y0 y1 y2))
 | 0 => fun _ _ _ r h => by simp [spec_l23Right.l0] at h
 | k + 1 => by
  have ih0 := spec_l23Right.mono_l k
  ·intro y0 y1 y2; unfold spec_l23Right.l0
   repeat' first
   | (with_reducible exact ih0 _ _ _)
   | (with_reducible exact LeO.refl _)
   | (with_reducible exact LeO.none _)
   | (with_reducible refine LeO.ite ?_ ?_)
   | (with_reducible refine LeO.bind ?_ (fun _ => ?_))
   | exact ih0 _ _ _
   | exact LeO.none _
   | refine LeO.ite ?_ ?_
   | refine LeO.bind ?_ (fun _ => ?_)
theorem spec_l23Right.mono : ∀ a0 a1 k, LeO (spec_l23Right.f k a0 a1) (spec_l23Right.f (k + 1) a0 a1) := by
 intro a0 a1 k; have ih0 := spec_l23Right.mono_l k; unfold spec_l23Right.f
 repeat' first
  | (with_reducible exact ih0 _ _ _)
  | (with_reducible exact LeO.refl _)
  | (with_reducible exact LeO.none _)
  | (with_reducible refine LeO.ite ?_ ?_)
  | (with_reducible refine LeO.bind ?_ (fun _ => ?_))
  | exact ih0 _ _ _
  | exact LeO.none _
  | refine LeO.ite ?_ ?_
  | refine LeO.bind ?_ (fun _ => ?_)
set_option maxHeartbeats 8000000 in
set_option maxRecDepth 100000 in
theorem spec_l23Right.calls (k : Nat) (A0 : Option Addr) (c0 : Nat) (l0 : List ByteArray) (A1 : Option Addr) (c1 : Nat) (l1 : List Int) (r : Bool) (w : World) (hr0 : Kd.C Kd.string w A0 l0.length l0) (hc0 : l0.length ≤ c0) (hr1 : Kd.C (Kd.int .i64) w A1 l1.length l1) (hc1 : l1.length ≤ c1) (h : spec_l23Right.f k l0 l1 = some r) :
 Calls Try.prog 40 #[.slice A0 l0.length c0, .slice A1 l1.length c1] w fun e w' => e = .returned (.bool r) ∧ Drawn0 w w' := by
 have hh := Aside0.mk hr0; have lw := Aside0.mk hc0; clear hr0 hc0; have el := Aside0.mk hr1; have ex := Aside0.mk hc1; clear hr1 hc1; have H : (spec_l23Right.l0 k l0 l1 0) = some r := h; clear h; have H' := Aside0.mk H; clear H
 go_enter Try.func40, Try.ntmps40
 go_wp2
 go_loopg [5] k (fun kq v5 w' => ∃ (bn : Int), v5 = .int .i64 bn ∧ Aside0 (spec_l23Right.l0 kq l0 l1 bn = some r) ∧ Aside0 (kq ≤ k) ∧ Drawn0 w w')
 case atStart => exact ⟨(0), z_6, H', ⟨Nat.le_refl _⟩, z_2⟩
 case round =>
  clear H'; obtain ⟨bn, rfl, HA, HK1, ⟨m1, rfl⟩⟩ := hrel
  cases gk with
  | zero => exact absurd HA.out (by simp [spec_l23Right.l0])
  | succ k1 =>
   have H := HA.out; clear HA; simp only [spec_l23Right.l0] at H
   by_cases c3 : bn < (l1.length : Int)
   ·rw [if_pos c3] at H; have mw := decide_eq_true c3; clear c3
    by_cases c4 : 0 ≤ bn
    ·rw [if_pos c4] at H; have kj := decide_eq_true c4; clear c4; replace H := Option.bind_eq_some_iff.mp H; obtain ⟨akc, fj, H⟩ := H; have A5 := Aside0.mk fj; clear fj
     by_cases c6 : akc = true
     ·subst c6; rw [if_pos rfl] at H; have H' := Aside0.mk H; clear H; have a4w : 0 ≤ (bn : Int) := of_decide_eq_true z_9; have a4x : bn < (l1.length : Int) := of_decide_eq_true z_9; obtain ⟨azb, akd, azc⟩ := Kd.at_int el.out bn a4w a4x; cases akd; replace a4w := eq_true a4w; replace a4x := eq_true a4x; go_wp2_with (first | ((with_reducible refine gate_callee (f := 39) rfl ?_); refine gl_ 16 Try.func39 #[.int .i64 (rd l1 bn), .int .i64 0, .int .i64 32767] ?_; (with_reducible refine (spec_l1In.calls (rd l1 bn) 0 32767 true _ A5.out).mono ?_); rintro e w' ⟨rfl, ⟨nd, rfl⟩⟩; refine ⟨_, rfl, ?_⟩)); go_roundg k1
      case measure => have := HK1.out; omega
      case rel => exact ⟨(wrap64 (bn + 1)), z_6, H', ⟨by have := HK1.out; omega⟩, z_2⟩
     ·replace c6 := Bool.eq_false_iff.mpr c6; subst c6; rw [if_neg (show ¬ (false = true) by decide)] at H; obtain rfl := Option.some.inj H; have a4w : 0 ≤ (bn : Int) := of_decide_eq_true z_9; have a4x : bn < (l1.length : Int) := of_decide_eq_true z_9; obtain ⟨azb, akd, azc⟩ := Kd.at_int el.out bn a4w a4x; cases akd; replace a4w := eq_true a4w; replace a4x := eq_true a4x; go_wp2_with (first | ((with_reducible refine gate_callee (f := 39) rfl ?_); refine gl_ 16 Try.func39 #[.int .i64 (rd l1 bn), .int .i64 0, .int .i64 32767] ?_; (with_reducible refine (spec_l1In.calls (rd l1 bn) 0 32767 false _ A5.out).mono ?_); rintro e w' ⟨rfl, ⟨nd, rfl⟩⟩; refine ⟨_, rfl, ?_⟩)); go_ret; exact ⟨z_1, z_2⟩
    ·rw [if_neg c4] at H; exact absurd H (by simp)
   ·rw [if_neg c3] at H; have mw := decide_eq_false c3; clear c3; obtain rfl := Option.some.inj H; go_wp2; go_ret; exact ⟨z_1, z_2⟩
def spec_WordsIn.l0 : Nat → List ByteArray → List Int → Int → Int → ByteArray → List ByteArray → List (S27) → Option (Int)
 | 0, _, _, _, _, _, _, _ => none
 | k + 1, x1, x2, x7, x8, ake, ad3, akf => if x8 < (ad3.length : Int) then (if 0 ≤ x8 then ((spec_l9At.f k x1 (rdOf ByteArray.empty ad3 x8)).bind fun ou => (if ou ≥ 0 then (if ou < (x2.length : Int) then (if 0 ≤ ou then (spec_WordsIn.l0 k x1 x2 (wrap64 (x7 + (rd x2 ou))) (wrap64 (x8 + 1)) ake ad3 akf) else (none)) else (spec_WordsIn.l0 k x1 x2 x7 (wrap64 (x8 + 1)) ake ad3 akf)) else (spec_WordsIn.l0 k x1 x2 x7 (wrap64 (x8 + 1)) ake ad3 akf))) else (none)) else (some x7)
def spec_WordsIn.f (k : Nat) (ae : ByteArray) (ac : List ByteArray) (ab : List (S27)) (l1 : List ByteArray) (l2 : List Int) : Option (Int) := spec_WordsIn.l0 k l1 l2 0 0 ae ac ab
theorem spec_WordsIn.mono_l : ∀ k, (∀ y0 y1 y2 y3 y4 y5 y6, LeO (spec_WordsIn.l0 k y0 y1 y2 y3 y4 y5 y6) (spec_WordsIn.l0 (k + 1) y0 y1 y2 y3 y4 y5 y6))
 | 0 => fun _ _ _ _ _ _ _ r h => by simp [spec_WordsIn.l0] at h
 | k + 1 => by
  have ih0 := spec_WordsIn.mono_l k
  ·intro y0 y1 y2 y3 y4 y5 y6; unfold spec_WordsIn.l0
   repeat' first
   | (with_reducible exact ih0 _ _ _ _ _ _ _)
   | (with_reducible exact spec_l9At.mono _ _ _)
   | (with_reducible exact LeO.refl _)
   | (with_reducible exact LeO.none _)
   | (with_reducible refine LeO.ite ?_ ?_)
   | (with_reducible refine LeO.bind ?_ (fun _ => ?_))
   | exact ih0 _ _ _ _ _ _ _
   | exact spec_l9At.mono _ _ _
   | exact LeO.none _
   | refine LeO.ite ?_ ?_
   | refine LeO.bind ?_ (fun _ => ?_)
theorem spec_WordsIn.mono : ∀ a0 a1 a2 a3 a4 k, LeO (spec_WordsIn.f k a0 a1 a2 a3 a4) (spec_WordsIn.f (k + 1) a0 a1 a2 a3 a4) := by
 intro a0 a1 a2 a3 a4 k; have ih0 := spec_WordsIn.mono_l k; unfold spec_WordsIn.f
 repeat' first
  | (with_reducible exact ih0 _ _ _ _ _ _ _)
  | (with_reducible exact spec_l9At.mono _ _ _)
  | (with_reducible exact LeO.refl _)
  | (with_reducible exact LeO.none _)
  | (with_reducible refine LeO.ite ?_ ?_)
  | (with_reducible refine LeO.bind ?_ (fun _ => ?_))
  | exact ih0 _ _ _ _ _ _ _
  | exact spec_l9At.mono _ _ _
  | exact LeO.none _
  | refine LeO.ite ?_ ?_
  | refine LeO.bind ?_ (fun _ => ?_)
set_option maxHeartbeats 8000000 in
set_option maxRecDepth 100000 in
theorem spec_WordsIn.calls (k : Nat) (ae : ByteArray) (am : Option Addr) (an : Nat) (ac : List ByteArray) (ar : Option Addr) (ao : Nat) (ab : List (S27)) (A1 : Option Addr) (c1 : Nat) (l1 : List ByteArray) (A2 : Option Addr) (c2 : Nat) (l2 : List Int) (r : Int) (w : World) (hr0_1 : Kd.C Kd.string w am ac.length ac) (hc0_1 : ac.length ≤ an) (hr0_2 : Kd.C k27 w ar ab.length ab) (hc0_2 : ab.length ≤ ao) (hr1 : Kd.C Kd.string w A1 l1.length l1) (hc1 : l1.length ≤ c1) (hr2 : Kd.C (Kd.int .i64) w A2 l2.length l2) (hc2 : l2.length ≤ c2) (h : spec_WordsIn.f k ae ac ab l1 l2 = some r) :
 Calls Try.prog 23 #[.agg #[.string ae, .slice am ac.length an, .slice ar ab.length ao], .slice A1 l1.length c1, .slice A2 l2.length c2] w fun e w' => e = .returned (.int .i64 r) ∧ Below w.heap.size w w' := by
 have hu27 := Try.underlying27; have du := Aside0.mk hr0_1; have eb := Aside0.mk hc0_1; clear hr0_1 hc0_1; have dk := Aside0.mk hr0_2; have ef := Aside0.mk hc0_2; clear hr0_2 hc0_2; have el := Aside0.mk hr1; have ex := Aside0.mk hc1; clear hr1 hc1; have ff := Aside0.mk hr2; have gb := Aside0.mk hc2; clear hr2 hc2; have HB := Aside0.mk (Below.refl w.heap.size w); have H : (spec_WordsIn.l0 k l1 l2 0 0 ae ac ab) = some r := h; clear h; have H' := Aside0.mk H; clear H
 go_enter Try.func23, Try.ntmps23
 go_wp2_with (first | ((with_reducible refine gate_dst (N := 3) rfl ?_); (try (refine gate_guard (by rfl) ?_; dsimp only)); refine box_event ?hg (N := 3) ?hd (cs := #[.string ae, .slice am ac.length an, .slice ar ab.length ao]) (t := 27) ?hr ?_; (case hd => rfl); (case hg => rfl); (case hr => first | (go_simp; done) | (go_simp; rfl)); intro akg hg w4 hbox hb; have yw := ak hbox; have bdx := ak ((z_3 HB.out : w.heap.size ≤ akg)); have ad4 := ak ((z_3 HB.out : w.heap.size ≤ akg)); replace HB := ak (below_step (z_4 HB.out) hb); clear hb hbox hg))
 go_loopg [7, 8] k (fun kq v7 v8 w' => ∃ (fx : Int) (ds : Int), v7 = .int .i64 fx ∧ v8 = .int .i64 ds ∧ Aside0 (spec_WordsIn.l0 kq l1 l2 fx ds ae ac ab = some r) ∧ Aside0 (kq ≤ k) ∧ Aside0 (w'.heap[akg]? = some (.cells #[.string ae, (.slice am ac.length an), (.slice ar ab.length ao)] 27 (0, 0))) ∧ Aside0 (Below w.heap.size w w'))
 case atStart => exact ⟨(0), (0), z_6, z_6, H', ⟨Nat.le_refl _⟩, ⟨z_8 yw.out⟩, ⟨z_5 HB.out ad4.out⟩⟩
 case round =>
  clear H'; obtain ⟨fx, ds, rfl, rfl, HA, HK1, yw, HB⟩ := hrel
  cases gk with
  | zero => exact absurd HA.out (by simp [spec_WordsIn.l0])
  | succ k1 =>
   have H := HA.out; clear HA; simp only [spec_WordsIn.l0] at H
   by_cases c5 : ds < (ac.length : Int)
   ·rw [if_pos c5] at H; have kz := decide_eq_true c5; clear c5
    by_cases c6 : 0 ≤ ds
    ·rw [if_pos c6] at H; have nw := decide_eq_true c6; clear c6; replace H := Option.bind_eq_some_iff.mp H; obtain ⟨ou, kk, H⟩ := H; have A7 := Aside0.mk kk; clear kk
     by_cases c8 : ou ≥ 0
     ·rw [if_pos c8] at H; have ky : decide (0 ≤ ou) = true := decide_eq_true c8; clear c8
      by_cases c9 : ou < (l2.length : Int)
      ·rw [if_pos c9] at H; have si := decide_eq_true c9; clear c9
       by_cases ew : 0 ≤ ou
       ·rw [if_pos ew] at H; have agt := decide_eq_true ew; clear ew; have H' := Aside0.mk H; clear H; obtain ⟨tv, tw, tx, vv, vw, vx⟩ := cf yw.out; have va : 0 ≤ (ds : Int) := of_decide_eq_true z_9; have vb : ds < (ac.length : Int) := of_decide_eq_true z_9; obtain ⟨aqf, ad5, vc⟩ := Kd.at_string du.out ds va vb; cases ad5; replace vc := (HB.out.cell (World.block_lt_of_cell? w _ vc)).trans vc; replace va := eq_true va; replace vb := eq_true vb; go_wp2_with (first | ((with_reducible refine gate_callee (f := 46) rfl ?_); refine gl_ 23 Try.func46 #[.slice A1 l1.length c1, .string (rdOf ByteArray.empty ac ds)] ?_; refine (spec_l9At.calls k1 _ _ l1 (rdOf ByteArray.empty ac ds) ou _ (z_25 el.out HB.out) ex.out A7.out).mono ?_; rintro e w' ⟨rfl, ⟨nd, rfl⟩⟩; refine ⟨_, rfl, ?_⟩; have akh : 0 ≤ (ou : Int) := of_decide_eq_true z_9; have aki : ou < (l2.length : Int) := of_decide_eq_true z_9; obtain ⟨bdy, azd, akj⟩ := Kd.at_int ff.out ou akh aki; cases azd; replace akj := (HB.out.cell (World.block_lt_of_cell? w _ akj)).trans akj; replace akh := eq_true akh; replace aki := eq_true aki))
        go_roundg k1
        case measure => have := HK1.out; omega
        case rel => exact ⟨(wrap64 (fx + (rd l2 ou))), (wrap64 (ds + 1)), z_6, z_6, H', ⟨by have := HK1.out; omega⟩, ⟨z_8 yw.out⟩, ⟨z_5 HB.out ad4.out⟩⟩
       ·rw [if_neg ew] at H; exact absurd H (by simp)
      ·rw [if_neg c9] at H; have si := decide_eq_false c9; clear c9; have H' := Aside0.mk H; clear H; obtain ⟨nx, nz, oa, ob, oc, od⟩ := cf yw.out; have va : 0 ≤ (ds : Int) := of_decide_eq_true z_9; have vb : ds < (ac.length : Int) := of_decide_eq_true z_9; obtain ⟨aqf, ad5, vc⟩ := Kd.at_string du.out ds va vb; cases ad5; replace vc := (HB.out.cell (World.block_lt_of_cell? w _ vc)).trans vc; replace va := eq_true va; replace vb := eq_true vb; go_wp2_with (first | ((with_reducible refine gate_callee (f := 46) rfl ?_); refine gl_ 23 Try.func46 #[.slice A1 l1.length c1, .string (rdOf ByteArray.empty ac ds)] ?_; refine (spec_l9At.calls k1 _ _ l1 (rdOf ByteArray.empty ac ds) ou _ (z_25 el.out HB.out) ex.out A7.out).mono ?_; rintro e w' ⟨rfl, ⟨nd, rfl⟩⟩; refine ⟨_, rfl, ?_⟩)); go_roundg k1
       case measure => have := HK1.out; omega
       case rel => exact ⟨(fx), (wrap64 (ds + 1)), z_6, z_6, H', ⟨by have := HK1.out; omega⟩, ⟨z_8 yw.out⟩, ⟨z_5 HB.out ad4.out⟩⟩
     ·rw [if_neg c8] at H; have ky : decide (0 ≤ ou) = false := decide_eq_false c8; clear c8; have H' := Aside0.mk H; clear H; obtain ⟨sp, sq, sr, su, sv, sw⟩ := cf yw.out; have va : 0 ≤ (ds : Int) := of_decide_eq_true z_9; have vb : ds < (ac.length : Int) := of_decide_eq_true z_9; obtain ⟨aqf, ad5, vc⟩ := Kd.at_string du.out ds va vb; cases ad5; replace vc := (HB.out.cell (World.block_lt_of_cell? w _ vc)).trans vc; replace va := eq_true va; replace vb := eq_true vb; go_wp2_with (first | ((with_reducible refine gate_callee (f := 46) rfl ?_); refine gl_ 23 Try.func46 #[.slice A1 l1.length c1, .string (rdOf ByteArray.empty ac ds)] ?_; refine (spec_l9At.calls k1 _ _ l1 (rdOf ByteArray.empty ac ds) ou _ (z_25 el.out HB.out) ex.out A7.out).mono ?_; rintro e w' ⟨rfl, ⟨nd, rfl⟩⟩; refine ⟨_, rfl, ?_⟩)); go_roundg k1
      case measure => have := HK1.out; omega
      case rel => exact ⟨(fx), (wrap64 (ds + 1)), z_6, z_6, H', ⟨by have := HK1.out; omega⟩, ⟨z_8 yw.out⟩, ⟨z_5 HB.out ad4.out⟩⟩
    ·rw [if_neg c6] at H; exact absurd H (by simp)
   ·rw [if_neg c5] at H; have kz := decide_eq_false c5; clear c5; obtain rfl := Option.some.inj H; obtain ⟨qz, ra, rc, re, rf, rg⟩ := cf yw.out; go_wp2; go_ret; exact ⟨z_17, z_5 HB.out ad4.out⟩
mutual
def spec_l23Lay.l0 : Nat → List ByteArray → List Int → Int → List (S38) → Int → ByteArray → List ByteArray → List (S27) → Option ((List (S38)))
 | 0, _, _, _, _, _, _, _, _ => none
 | k + 1, x1, x2, x9, fp, kh, aze, azf, ad6 => if kh < (ad6.length : Int) then (if 0 ≤ kh then ((spec_l23Lay.f k ((rd_T27 ad6 kh).f0) ((rd_T27 ad6 kh).f1) ((rd_T27 ad6 kh).f2) x1 x2 x9).bind fun a2b => (if fp.length + a2b.length < 4398046511104 then (spec_l23Lay.l0 k x1 x2 x9 (fp ++ a2b) (wrap64 (kh + 1)) aze azf ad6) else (none))) else (none)) else (some fp)
def spec_l23Lay.f : Nat → ByteArray → List ByteArray → List (S27) → List ByteArray → List Int → Int → Option ((List (S38)))
 | 0, _, _, _, _, _, _ => none
 | k + 1, ae, ac, ab, l1, l2, a3 => (spec_WordsIn.f k ae ac ab l1 l2).bind fun nr => (spec_l23Lay.l0 k l1 l2 (wrap64 (a3 + (wrap64 (2 * nr)))) (([(⟨ae, a3, wrap64 (a3 + (wrap64 (2 * nr)))⟩ : S38)] : List (S38))) 0 ae ac ab)
end
theorem spec_l23Lay.mono_l : ∀ k, (∀ y0 y1 y2 y3 y4 y5, LeO (spec_l23Lay.f k y0 y1 y2 y3 y4 y5) (spec_l23Lay.f (k + 1) y0 y1 y2 y3 y4 y5)) ∧ (∀ y0 y1 y2 y3 y4 y5 y6 y7, LeO (spec_l23Lay.l0 k y0 y1 y2 y3 y4 y5 y6 y7) (spec_l23Lay.l0 (k + 1) y0 y1 y2 y3 y4 y5 y6 y7))
 | 0 => ⟨fun _ _ _ _ _ _ r h => by simp [spec_l23Lay.f] at h, fun _ _ _ _ _ _ _ _ r h => by simp [spec_l23Lay.l0] at h⟩
 | k + 1 => by
  obtain ⟨ih0, ih1⟩ := spec_l23Lay.mono_l k; refine ⟨?_, ?_⟩
  all_goals
   intros
   first | unfold spec_l23Lay.f | unfold spec_l23Lay.l0
   repeat' first
   | (with_reducible exact ih0 _ _ _ _ _ _)
   | (with_reducible exact ih1 _ _ _ _ _ _ _ _)
   | (with_reducible exact spec_WordsIn.mono _ _ _ _ _ _)
   | (with_reducible exact LeO.refl _)
   | (with_reducible exact LeO.none _)
   | (with_reducible refine LeO.ite ?_ ?_)
   | (with_reducible refine LeO.bind ?_ (fun _ => ?_))
   | exact ih0 _ _ _ _ _ _
   | exact ih1 _ _ _ _ _ _ _ _
   | exact spec_WordsIn.mono _ _ _ _ _ _
   | exact LeO.none _
   | refine LeO.ite ?_ ?_
   | refine LeO.bind ?_ (fun _ => ?_)
theorem spec_l23Lay.mono : ∀ a0 a1 a2 a3 a4 a5 k, LeO (spec_l23Lay.f k a0 a1 a2 a3 a4 a5) (spec_l23Lay.f (k + 1) a0 a1 a2 a3 a4 a5) := by
 intro a0 a1 a2 a3 a4 a5 k; obtain ⟨ih0, ih1⟩ := spec_l23Lay.mono_l k; exact ih0 a0 a1 a2 a3 a4 a5
set_option maxHeartbeats 8000000 in
set_option maxRecDepth 100000 in
theorem spec_l23Lay.calls (k : Nat) : ∀ (ae : ByteArray) (am : Option Addr) (an : Nat) (ac : List ByteArray) (ar : Option Addr) (ao : Nat) (ab : List (S27)) (A1 : Option Addr) (c1 : Nat) (l1 : List ByteArray) (A2 : Option Addr) (c2 : Nat) (l2 : List Int) (a3 : Int) (r : List (S38)) (w : World) (hr0_1 : Kd.C Kd.string w am ac.length ac) (hc0_1 : ac.length ≤ an) (hr0_2 : Kd.C k27 w ar ab.length ab) (hc0_2 : ab.length ≤ ao) (hr1 : Kd.C Kd.string w A1 l1.length l1) (hc1 : l1.length ≤ c1) (hr2 : Kd.C (Kd.int .i64) w A2 l2.length l2) (hc2 : l2.length ≤ c2) (h : spec_l23Lay.f k ae ac ab l1 l2 a3 = some r),
 Calls Try.prog 41 #[.agg #[.string ae, .slice am ac.length an, .slice ar ab.length ao], .slice A1 l1.length c1, .slice A2 l2.length c2, .int .i64 a3] w fun e w' => ∃ v0_ : Value, e = .returned (v0_) ∧ Kd.R k38 38 w' w.heap.size (fun _ => True) v0_ r ∧ Below w.heap.size w w' := by
 induction k using Nat.strongRecOn with
 | _ k ih =>
 intro ae am an ac ar ao ab A1 c1 l1 A2 c2 l2 a3 r w hr0_1 hc0_1 hr0_2 hc0_2 hr1 hc1 hr2 hc2 h
 cases k with
 | zero => exact absurd h (by simp [spec_l23Lay.f])
 | succ k =>
 simp only [spec_l23Lay.f] at h; have hu27 := Try.underlying27; have hu38 := Try.underlying38; have du := Aside0.mk hr0_1; have eb := Aside0.mk hc0_1; clear hr0_1 hc0_1; have dk := Aside0.mk hr0_2; have ef := Aside0.mk hc0_2; clear hr0_2 hc0_2; have el := Aside0.mk hr1; have ex := Aside0.mk hc1; clear hr1 hc1; have ff := Aside0.mk hr2; have gb := Aside0.mk hc2; clear hr2 hc2; have HB := Aside0.mk (Below.refl w.heap.size w); have H : ((spec_WordsIn.f k ae ac ab l1 l2).bind fun nr => (spec_l23Lay.l0 k l1 l2 (wrap64 (a3 + (wrap64 (2 * nr)))) (([(⟨ae, a3, wrap64 (a3 + (wrap64 (2 * nr)))⟩ : S38)] : List (S38))) 0 ae ac ab)) = some r := h; clear h; replace H := Option.bind_eq_some_iff.mp H; obtain ⟨nr, fj, H⟩ := H; have A5 := Aside0.mk fj; clear fj; obtain ⟨aqg, ad7⟩ : ∃ y_ : List (S38), y_ = (([(⟨ae, a3, wrap64 (a3 + (wrap64 (2 * nr)))⟩ : S38)] : List (S38))) := ⟨_, rfl⟩; replace H : (spec_l23Lay.l0 k l1 l2 (wrap64 (a3 + (wrap64 (2 * nr)))) aqg 0 ae ac ab) = some r := by first | (rw [ad7]; with_reducible exact H) | (have H2_ := (Option.bind_some _ _).symm.trans H; rw [ad7]; with_reducible exact H2_) | (have H2_ := (Option.bind_some _ _).symm.trans H; with_reducible exact H2_) | with_reducible exact H | (rw [ad7]; exact H) | exact H
 have aqh := Aside0.mk ad7; clear ad7; have H' := Aside0.mk H; clear H
 go_enter Try.func41, Try.ntmps41
 go_wp2_with (first | ((with_reducible refine gate_dst (N := 4) rfl ?_); refine box_event ?hg (N := 4) ?hd (cs := #[.string ae, .slice am ac.length an, .slice ar ab.length ao]) (t := 27) ?hr ?_; (case hd => rfl); (case hg => rfl); (case hr => first | (go_simp; done) | (go_simp; rfl)); intro ag9 hg w6 hbox hb; have jl := ak hbox; have bdz := ak ((z_3 HB.out : w.heap.size ≤ ag9)); have wy := ak ((z_3 HB.out : w.heap.size ≤ ag9)); replace HB := ak (below_step (z_4 HB.out) hb); clear hb hbox hg; have a6i := bc jl.out 0; have a6j := bc jl.out 1; have a6k := bc jl.out 2; have aes := blk_frozen jl.out 0; have aet := blk_frozen jl.out 1; have aeu := blk_frozen jl.out 2) | ((with_reducible refine gate_callee (f := 23) rfl ?_); refine gl_ 16 Try.func23 #[.agg #[.string ae, .slice am ac.length an, .slice ar ab.length ao], .slice A1 l1.length c1, .slice A2 l2.length c2] ?_; refine (spec_WordsIn.calls k ae _ _ ac _ _ ab _ _ l1 _ _ l2 nr _ (z_25 du.out HB.out) eb.out (z_25 dk.out HB.out) ef.out (z_25 el.out HB.out) ex.out (z_25 ff.out HB.out) gb.out A5.out).mono ?_; rintro e w8 ⟨rfl, hb⟩; refine ⟨_, rfl, ?_⟩; replace jl := bb jl hb; replace HB := ak (below_step (z_5 HB.out wy.out) hb); (try clear hb); (try clear hb2); (try clear hk); (try clear hi); have tp := bc jl.out 0; have tq := bc jl.out 1; have tr := bc jl.out 2; have ts := blk_frozen jl.out 0; have tt := blk_frozen jl.out 1; have tu := blk_frozen jl.out 2) | ((with_reducible refine gate_dst (N := 24) rfl ?_); refine Kd.R_lit k38 _ 38 ?hg (N := 24) ?hd (xs := ([(⟨ae, a3, wrap64 (a3 + (wrap64 (2 * nr)))⟩ : S38)] : List (S38))) (inner := [.string ae, .int .i64 a3, .int .i64 (wrap64 (a3 + (wrap64 (2 * nr))))]) (ok := fun _ => True) (okp := fun _ => True) ?hr ?hp (fun _ hk => hk) trivial (Below.refl _ _) (Nat.le_refl _) (by simp) ?_; (case hd => rfl); (case hg => rfl); (case hr => first | (go_simp; done) | (go_simp; rfl)); (case hp => exact (Reps.c3 (show Kd.M k38 _ _ _ (⟨ae, a3, wrap64 (a3 + (wrap64 (2 * nr)))⟩ : S38) [.string ae, .int .i64 a3, .int .i64 (wrap64 (a3 + (wrap64 (2 * nr))))] from (k38_mkM _ _ _ (⟨ae, a3, wrap64 (a3 + (wrap64 (2 * nr)))⟩ : S38) )) (Reps.none _ _))); intro be0 qf uf hb hg_ hnew_; clear hg_ hnew_; (first | rw [← aqh.out] at uf | (simp only [Int.reduceToNat] at uf; rw [← aqh.out] at uf)); have azg := ak (Kd.R_lower uf (below_size (z_5 HB.out wy.out))); replace jl := bb jl hb; replace HB := ak (below_step (z_5 HB.out wy.out) hb); clear hb uf))
 go_loopg [10, 11] k (fun kq v10 v11 w' => ∃ (eu : List (S38)) (pc : Int), v11 = .int .i64 pc ∧ Aside0 (spec_l23Lay.l0 kq l1 l2 (wrap64 (a3 + (wrap64 (2 * nr)))) eu pc ae ac ab = some r) ∧ Aside0 (kq ≤ k) ∧ Aside0 (Kd.R k38 38 w' w.heap.size (fun _ => True) v10 eu) ∧ Aside0 (w'.heap[ag9]? = some (.cells #[.string ae, (.slice am ac.length an), (.slice ar ab.length ao)] 27 (0, 0))) ∧ Aside0 (Below w.heap.size w w'))
 case atStart => exact ⟨(aqg), (0), z_6, H', ⟨Nat.le_refl _⟩, ⟨z_7 azg.out⟩, ⟨z_8 jl.out⟩, ⟨z_5 HB.out wy.out⟩⟩
 case round =>
  clear H'; (try clear c1); (try clear c2); (try clear a6i); (try clear a6j); (try clear a6k); (try clear tp); (try clear tq); (try clear tr); (try clear aes); (try clear aet); (try clear aeu); (try clear ts); (try clear tt); (try clear tu); obtain ⟨eu, pc, rfl, HA, HK1, ik, jl, HB⟩ := hrel
  cases gk with
  | zero => exact absurd HA.out (by simp [spec_l23Lay.l0])
  | succ k1 =>
   have H := HA.out; clear HA; simp only [spec_l23Lay.l0] at H
   by_cases jy : pc < (ab.length : Int)
   ·rw [if_pos jy] at H; have a9d := decide_eq_true jy; clear jy
    by_cases ga : 0 ≤ pc
    ·rw [if_pos ga] at H; have a2o := decide_eq_true ga; clear ga; replace H := Option.bind_eq_some_iff.mp H; obtain ⟨a2b, abd, H⟩ := H; have A14 := Aside0.mk abd; clear abd
     by_cases lb : eu.length + a2b.length < 4398046511104
     ·rw [if_pos lb] at H; have azh := Aside0.mk lb; clear lb; obtain ⟨aqi, ad8⟩ : ∃ y_ : List (S38), y_ = (eu ++ a2b) := ⟨_, rfl⟩; replace H : (spec_l23Lay.l0 k1 l1 l2 (wrap64 (a3 + (wrap64 (2 * nr)))) aqi (wrap64 (pc + 1)) ae ac ab) = some r := by first | (rw [ad8]; with_reducible exact H) | (have H2_ := (Option.bind_some _ _).symm.trans H; rw [ad8]; with_reducible exact H2_) | (have H2_ := (Option.bind_some _ _).symm.trans H; with_reducible exact H2_) | with_reducible exact H | (rw [ad8]; exact H) | exact H
      have azi := Aside0.mk ad8; clear ad8; have H' := Aside0.mk H; clear H; obtain ⟨aag, aah, aai, aaj, aak, aal⟩ := cf jl.out; have akk : 0 ≤ (pc : Int) := of_decide_eq_true z_9; have akl : pc < (ab.length : Int) := of_decide_eq_true z_9; obtain ⟨azj, azk, azl, azm, azn, azo, akm, akn, ako, aqj, aqk, aql, aqm⟩ := at_T27 dk.out pc akk akl; cases azo; replace akm := (HB.out.cell (World.block_lt_of_cell? w _ akm)).trans akm; replace akn := (HB.out.cell (World.block_lt_of_cell? w _ akn)).trans akn; replace ako := (HB.out.cell (World.block_lt_of_cell? w _ ako)).trans ako; have azp := Aside0.mk aqk; have azq := Aside0.mk aqj; clear aqk aqj; have azr := Aside0.mk aqm; have azs := Aside0.mk aql; clear aqm aql; replace akk := eq_true akk; replace akl := eq_true akl; go_wp2_with (first | ((with_reducible refine gate_callee (f := 41) rfl ?_); refine gl_ 41 Try.func41 #[.agg #[.string ((rd_T27 ab pc).f0), .slice azk ((rd_T27 ab pc).f1).length azl, .slice azm ((rd_T27 ab pc).f2).length azn], .slice A1 l1.length c1, .slice A2 l2.length c2, .int .i64 (wrap64 (a3 + (wrap64 (2 * nr))))] ?_; refine (ih k1 (by have := HK1.out; omega) ((rd_T27 ab pc).f0) _ _ ((rd_T27 ab pc).f1) _ _ ((rd_T27 ab pc).f2) _ _ l1 _ _ l2 (wrap64 (a3 + (wrap64 (2 * nr)))) a2b _ (z_25 azp.out HB.out) azq.out (z_25 azr.out HB.out) azs.out (z_25 el.out HB.out) ex.out (z_25 ff.out HB.out) gb.out A14.out).mono ?_; rintro e qh ⟨be1, rfl, aq, hb⟩; refine ⟨_, rfl, ?_⟩; have ad9 := ak (Kd.R_lower (Kd.R_new' aq (Kd.R_lt (z_7 ik.out))) (below_size (z_5 HB.out wy.out))); replace ik := ak (Kd.R_elder' (z_7 ik.out) (Kd.R_base aq) hb); replace jl := bb jl hb; replace HB := ak (below_step (z_5 HB.out wy.out) hb); (try clear hb); (try clear hb2); (try clear hk); (try clear hi); (try clear aq); obtain ⟨a6g, a3c, a0w⟩ := Kd.R_slice ad9.out; subst a0w) | ((with_reducible refine gate_builtin (b := .append) (xs := #[.tmp 32, .tmp 41]) rfl ?_); at_builtin; refine Kd.R_append_rows k38 (w0 := w) w.heap.size rfl (.tmp 32) (.tmp 41) 31 38 (.agg #[(.string ⟨#[]⟩), (.int .i64 0), (.int .i64 0)]) 32 rfl Try.underlying31 info38 rfl (by decide) (by omega) u10 eu a2b _ _ _ (fun k_ => some k_ ≠ (.slice a6g a2b.length a3c : Value).ownBlock) (fun _ => False) rfl rfl ?aO ?aR (fun _ _ h => h) (fun _ h => h.elim) ?aF ?aB ?aS ?aL ?_; (case aR => exact z_14 ad9.out); (case aB => exact z_5 HB.out wy.out); (case aF => exact (fun k_ hk => Kd.fresh' (Kd.R_lt (z_7 ad9.out)) k_ hk)); (case aO => exact z_15 ik.out); (case aS => exact (below_size (z_5 HB.out wy.out))); (case aL => have := azh.out; omega); intro be2 w18 ho hb hg hat; rw [← azi.out] at ho; replace jl := ak (blk_grown (g := ag9) (o := .cells #[.string ae, .slice am ac.length an, .slice (some azj) ab.length ao] 27 (0, 0)) (z_8 jl.out) hg (Kd.R_ne ik.out jl.out (by decide))); replace ad9 := ak (Kd.R_after (ok := (fun _ => True)) (z_7 ad9.out) hg hat); replace HB := ak hb; have azt := ak ho; clear ik; clear ho hb hg hat))
      go_roundg k1
      case measure => have := HK1.out; omega
      case rel => exact ⟨(aqi), (wrap64 (pc + 1)), z_6, H', ⟨by have := HK1.out; omega⟩, ⟨z_16 azt.out⟩, ⟨z_8 jl.out⟩, ⟨z_5 HB.out wy.out⟩⟩
     ·rw [if_neg lb] at H; exact absurd H (by simp)
    ·rw [if_neg ga] at H; exact absurd H (by simp)
   ·rw [if_neg jy] at H; have a9d := decide_eq_false jy; clear jy; obtain rfl := Option.some.inj H; obtain ⟨au8, au9, aua, aub, auc, aud⟩ := cf jl.out; go_wp2; go_ret; exact ⟨_, z_17, z_7 ik.out, z_5 HB.out wy.out⟩
mutual
def spec_Layout.j0 : Nat → List ByteArray → List Int → Int → Bool → ByteArray → List ByteArray → List (S27) → Option ((List (S38)) × Bool)
 | 0, _, _, _, _, _, _, _ => none
 | k + 1, x1, x2, x3, x30, azu, azv, azw => if x30 = true then (some ((([] : List (S38))), false)) else ((spec_l23Lay.f k azu azv azw x1 x2 x3).bind fun vd => (spec_Layout.l0 k vd 0))
def spec_Layout.l0 : Nat → List (S38) → Int → Option ((List (S38)) × Bool)
 | 0, _, _ => none
 | k + 1, fp, kh => if kh < (fp.length : Int) then (if 0 ≤ kh then (if ((rd_T38 fp kh).f2) > 65536 then (some ((([] : List (S38))), false)) else (spec_Layout.l0 k fp (wrap64 (kh + 1)))) else (none)) else (some (fp, true))
end
def spec_Layout.f (k : Nat) (ae : ByteArray) (ac : List ByteArray) (ab : List (S27)) (l1 : List ByteArray) (l2 : List Int) (a3 : Int) : Option ((List (S38)) × Bool) := (spec_SegOk.f k ae ac ab).bind fun ada => (if ada = true then ((spec_l1In.f a3 0 65535).bind fun adb => (if adb = true then (if (Int.tmod a3 2) = 0 then ((spec_l23Right.f k l1 l2).bind fun a7z => (spec_Layout.j0 k l1 l2 a3 (!a7z) ae ac ab)) else (spec_Layout.j0 k l1 l2 a3 true ae ac ab)) else (spec_Layout.j0 k l1 l2 a3 true ae ac ab))) else (spec_Layout.j0 k l1 l2 a3 true ae ac ab))
theorem spec_Layout.mono_l : ∀ k, (∀ y0 y1 y2 y3 y4 y5 y6, LeO (spec_Layout.j0 k y0 y1 y2 y3 y4 y5 y6) (spec_Layout.j0 (k + 1) y0 y1 y2 y3 y4 y5 y6)) ∧ (∀ y0 y1, LeO (spec_Layout.l0 k y0 y1) (spec_Layout.l0 (k + 1) y0 y1))
 | 0 => ⟨fun _ _ _ _ _ _ _ r h => by simp [spec_Layout.j0] at h, fun _ _ r h => by simp [spec_Layout.l0] at h⟩
 | k + 1 => by
  obtain ⟨ih0, ih1⟩ := spec_Layout.mono_l k; refine ⟨?_, ?_⟩
  all_goals
   intros
   first | unfold spec_Layout.j0 | unfold spec_Layout.l0
   repeat' first
   | (with_reducible exact ih0 _ _ _ _ _ _ _)
   | (with_reducible exact ih1 _ _)
   | (with_reducible exact spec_SegOk.mono _ _ _ _)
   | (with_reducible exact spec_l23Lay.mono _ _ _ _ _ _ _)
   | (with_reducible exact spec_l23Right.mono _ _ _)
   | (with_reducible exact LeO.refl _)
   | (with_reducible exact LeO.none _)
   | (with_reducible refine LeO.ite ?_ ?_)
   | (with_reducible refine LeO.bind ?_ (fun _ => ?_))
   | exact ih0 _ _ _ _ _ _ _
   | exact ih1 _ _
   | exact spec_SegOk.mono _ _ _ _
   | exact spec_l23Lay.mono _ _ _ _ _ _ _
   | exact spec_l23Right.mono _ _ _
   | exact LeO.none _
   | refine LeO.ite ?_ ?_
   | refine LeO.bind ?_ (fun _ => ?_)
theorem spec_Layout.mono : ∀ a0 a1 a2 a3 a4 a5 k, LeO (spec_Layout.f k a0 a1 a2 a3 a4 a5) (spec_Layout.f (k + 1) a0 a1 a2 a3 a4 a5) := by
 intro a0 a1 a2 a3 a4 a5 k; obtain ⟨ih0, ih1⟩ := spec_Layout.mono_l k; unfold spec_Layout.f
 repeat' first
  | (with_reducible exact ih0 _ _ _ _ _ _ _)
  | (with_reducible exact ih1 _ _)
  | (with_reducible exact spec_SegOk.mono _ _ _ _)
  | (with_reducible exact spec_l23Lay.mono _ _ _ _ _ _ _)
  | (with_reducible exact spec_l23Right.mono _ _ _)
  | (with_reducible exact LeO.refl _)
  | (with_reducible exact LeO.none _)
  | (with_reducible refine LeO.ite ?_ ?_)
  | (with_reducible refine LeO.bind ?_ (fun _ => ?_))
  | exact ih0 _ _ _ _ _ _ _
  | exact ih1 _ _
  | exact spec_SegOk.mono _ _ _ _
  | exact spec_l23Lay.mono _ _ _ _ _ _ _
  | exact spec_l23Right.mono _ _ _
  | exact LeO.none _
  | refine LeO.ite ?_ ?_
  | refine LeO.bind ?_ (fun _ => ?_)
set_option maxHeartbeats 8000000 in
set_option maxRecDepth 100000 in
theorem spec_Layout.calls (k : Nat) (ae : ByteArray) (am : Option Addr) (an : Nat) (ac : List ByteArray) (ar : Option Addr) (ao : Nat) (ab : List (S27)) (A1 : Option Addr) (c1 : Nat) (l1 : List ByteArray) (A2 : Option Addr) (c2 : Nat) (l2 : List Int) (a3 : Int) (r1 : List (S38)) (r2 : Bool) (w : World) (hr0_1 : Kd.C Kd.string w am ac.length ac) (hc0_1 : ac.length ≤ an) (hr0_2 : Kd.C k27 w ar ab.length ab) (hc0_2 : ab.length ≤ ao) (hr1 : Kd.C Kd.string w A1 l1.length l1) (hc1 : l1.length ≤ c1) (hr2 : Kd.C (Kd.int .i64) w A2 l2.length l2) (hc2 : l2.length ≤ c2) (h : spec_Layout.f k ae ac ab l1 l2 a3 = some (r1, r2)) :
 Calls Try.prog 16 #[.agg #[.string ae, .slice am ac.length an, .slice ar ab.length ao], .slice A1 l1.length c1, .slice A2 l2.length c2, .int .i64 a3] w fun e w' => ∃ v0_ : Value, e = .returned (.tuple #[v0_, .bool r2]) ∧ Kd.R k38 38 w' w.heap.size (fun _ => True) v0_ r1 ∧ Below w.heap.size w w' := by
 have hu27 := Try.underlying27; have du := Aside0.mk hr0_1; have eb := Aside0.mk hc0_1; clear hr0_1 hc0_1; have dk := Aside0.mk hr0_2; have ef := Aside0.mk hc0_2; clear hr0_2 hc0_2; have el := Aside0.mk hr1; have ex := Aside0.mk hc1; clear hr1 hc1; have ff := Aside0.mk hr2; have gb := Aside0.mk hc2; clear hr2 hc2; have HB := Aside0.mk (Below.refl w.heap.size w); have H : ((spec_SegOk.f k ae ac ab).bind fun ada => (if ada = true then ((spec_l1In.f a3 0 65535).bind fun adb => (if adb = true then (if (Int.tmod a3 2) = 0 then ((spec_l23Right.f k l1 l2).bind fun a7z => (spec_Layout.j0 k l1 l2 a3 (!a7z) ae ac ab)) else (spec_Layout.j0 k l1 l2 a3 true ae ac ab)) else (spec_Layout.j0 k l1 l2 a3 true ae ac ab))) else (spec_Layout.j0 k l1 l2 a3 true ae ac ab))) = some (r1, r2) := h; clear h; have HC5 := Aside0.mk H; clear H
 go_enter Try.func16, Try.ntmps16
 go_upto_region 1 with (first | ((with_reducible refine gate_dst (N := 4) rfl ?_); refine box_event ?hg (N := 4) ?hd (cs := #[.string ae, .slice am ac.length an, .slice ar ab.length ao]) (t := 27) ?hr ?_; (case hd => rfl); (case hg => rfl); (case hr => first | (go_simp; done) | (go_simp; rfl)); intro aga hg w6 hbox hb; have iz := ak hbox; have be3 := ak ((z_3 HB.out : w.heap.size ≤ aga)); have ln := ak ((z_3 HB.out : w.heap.size ≤ aga)); replace HB := ak (below_step (z_4 HB.out) hb); clear hb hbox hg))
 (try simp only [Act.put, List.setIfInBounds_toArray, List.set_cons_zero, List.set_cons_succ])
 go_cut [30] (fun v30 wc => ∃ (kq : Nat) (agb : Bool), v30 = .bool agb ∧ Aside0 (spec_Layout.j0 kq l1 l2 a3 agb ae ac ab = some (r1, r2)) ∧ Aside0 (kq ≤ k) ∧ Aside0 (wc.heap[aga]? = some (.cells #[.string ae, (.slice am ac.length an), (.slice ar ab.length ao)] 27 (0, 0))) ∧ Aside0 (Below w.heap.size w wc))
 case first =>
  have H := HC5.out; clear HC5; replace H := Option.bind_eq_some_iff.mp H; obtain ⟨ada, kk, H⟩ := H; have A7 := Aside0.mk kk; clear kk
  by_cases c8 : ada = true
  ·subst c8; rw [if_pos rfl] at H; replace H := Option.bind_eq_some_iff.mp H; obtain ⟨adb, jn, H⟩ := H; have A9 := Aside0.mk jn; clear jn
   by_cases ew : adb = true
   ·subst ew; rw [if_pos rfl] at H
    by_cases dw : (Int.tmod a3 2) = 0
    ·rw [if_pos dw] at H; have ly : ((Int.tmod a3 2) == 0) = true := beq_iff_eq.mpr dw; have tn : ((Int.tmod a3 2) != 0) = false := bne_eq_false_iff_eq.mpr dw; clear dw; (first | rw [ly] | (simp only [i64_w, i32_w]; rw [ly]) | skip); replace H := Option.bind_eq_some_iff.mp H; obtain ⟨a7z, a1h, H⟩ := H; have A12 := Aside0.mk a1h; clear a1h; have H' := Aside0.mk H; clear H; obtain ⟨sp, sq, sr, su, sv, sw⟩ := cf iz.out; go_wp2_with (first | ((with_reducible refine gate_callee (f := 38) rfl ?_); refine gl_ 13 Try.func38 #[.agg #[.string ae, .slice am ac.length an, .slice ar ab.length ao]] ?_; refine (spec_SegOk.calls k ae _ _ ac _ _ ab true _ (z_25 du.out HB.out) eb.out (z_25 dk.out HB.out) ef.out A7.out).mono ?_; rintro e w14 ⟨rfl, hb⟩; refine ⟨_, rfl, ?_⟩; replace iz := bb iz hb; replace HB := ak (below_step (z_5 HB.out ln.out) hb); (try clear hb); (try clear hb2); (try clear hk); (try clear hi)) | (go_at_call 39; (with_reducible refine (spec_l1In.calls a3 0 65535 true _ A9.out).mono ?_); rintro e w' ⟨rfl, ⟨nd, rfl⟩⟩) | (go_at_call 40; refine (spec_l23Right.calls k _ _ l1 _ _ l2 a7z _ (z_84 el.out HB.out ln.out) ex.out (z_84 ff.out HB.out ln.out) gb.out A12.out).mono ?_; rintro e w' ⟨rfl, ⟨nd, rfl⟩⟩))
     go_meet
     case rel => exact ⟨_, (!a7z), z_6, H', ⟨z_19⟩, ⟨z_8 iz.out⟩, ⟨z_5 HB.out ln.out⟩⟩
    ·rw [if_neg dw] at H; have ly : ((Int.tmod a3 2) == 0) = false := beq_eq_false_iff_ne.mpr dw; have tn : ((Int.tmod a3 2) != 0) = true := bne_iff_ne.mpr dw; (first | rw [ly] | (simp only [i64_w, i32_w]; rw [ly]) | skip); have H' := Aside0.mk H; clear H; obtain ⟨a0p, a0q, a0r, a0s, a0t, a0u⟩ := cf iz.out; go_wp2_with (first | ((with_reducible refine gate_callee (f := 38) rfl ?_); refine gl_ 13 Try.func38 #[.agg #[.string ae, .slice am ac.length an, .slice ar ab.length ao]] ?_; refine (spec_SegOk.calls k ae _ _ ac _ _ ab true _ (z_25 du.out HB.out) eb.out (z_25 dk.out HB.out) ef.out A7.out).mono ?_; rintro e w16 ⟨rfl, hb⟩; refine ⟨_, rfl, ?_⟩; replace iz := bb iz hb; replace HB := ak (below_step (z_5 HB.out ln.out) hb); (try clear hb); (try clear hb2); (try clear hk); (try clear hi)) | (go_at_call 39; (with_reducible refine (spec_l1In.calls a3 0 65535 true _ A9.out).mono ?_); rintro e w' ⟨rfl, ⟨nd, rfl⟩⟩))
     go_meet
     case rel => exact ⟨_, (true), z_6, H', ⟨z_19⟩, ⟨z_8 iz.out⟩, ⟨z_5 HB.out ln.out⟩⟩
   ·replace ew := Bool.eq_false_iff.mpr ew; subst ew; rw [if_neg (show ¬ (false = true) by decide)] at H; have H' := Aside0.mk H; clear H; obtain ⟨aek, ael, aem, aen, aeo, aep⟩ := cf iz.out; go_wp2_with (first | ((with_reducible refine gate_callee (f := 38) rfl ?_); refine gl_ 13 Try.func38 #[.agg #[.string ae, .slice am ac.length an, .slice ar ab.length ao]] ?_; refine (spec_SegOk.calls k ae _ _ ac _ _ ab true _ (z_25 du.out HB.out) eb.out (z_25 dk.out HB.out) ef.out A7.out).mono ?_; rintro e w18 ⟨rfl, hb⟩; refine ⟨_, rfl, ?_⟩; replace iz := bb iz hb; replace HB := ak (below_step (z_5 HB.out ln.out) hb); (try clear hb); (try clear hb2); (try clear hk); (try clear hi)) | (go_at_call 39; (with_reducible refine (spec_l1In.calls a3 0 65535 false _ A9.out).mono ?_); rintro e w' ⟨rfl, ⟨nd, rfl⟩⟩))
    go_meet
    case rel => exact ⟨_, (true), z_6, H', ⟨z_19⟩, ⟨z_8 iz.out⟩, ⟨z_5 HB.out ln.out⟩⟩
  ·replace c8 := Bool.eq_false_iff.mpr c8; subst c8; rw [if_neg (show ¬ (false = true) by decide)] at H; have H' := Aside0.mk H; clear H; obtain ⟨abx, aby, abz, ac0, ac1, ac2⟩ := cf iz.out; go_wp2_with (first | ((with_reducible refine gate_callee (f := 38) rfl ?_); refine gl_ 13 Try.func38 #[.agg #[.string ae, .slice am ac.length an, .slice ar ab.length ao]] ?_; refine (spec_SegOk.calls k ae _ _ ac _ _ ab false _ (z_25 du.out HB.out) eb.out (z_25 dk.out HB.out) ef.out A7.out).mono ?_; rintro e w20 ⟨rfl, hb⟩; refine ⟨_, rfl, ?_⟩; replace iz := bb iz hb; replace HB := ak (below_step (z_5 HB.out ln.out) hb); (try clear hb); (try clear hb2); (try clear hk); (try clear hi)))
   go_meet
   case rel => exact ⟨_, (true), z_6, H', ⟨z_19⟩, ⟨z_8 iz.out⟩, ⟨z_5 HB.out ln.out⟩⟩
 case rest =>
  clear HC5; (try clear c8); (try clear ew); (try clear dw); (try clear ly); (try clear tn); (try clear sp); (try clear sq); (try clear sr); (try clear a0p); (try clear a0q); (try clear a0r); (try clear aek); (try clear ael); (try clear aem); (try clear abx); (try clear aby); (try clear abz); (try clear su); (try clear sv); (try clear sw); (try clear a0s); (try clear a0t); (try clear a0u); (try clear aen); (try clear aeo); (try clear aep); (try clear ac0); (try clear ac1); (try clear ac2); obtain ⟨kq, agb, rfl, HA, HJ4, iz, HB⟩ := hcut
  cases kq with
  | zero => exact absurd HA.out (by simp [spec_Layout.j0])
  | succ kj4 =>
   have H := HA.out; clear HA; simp only [spec_Layout.j0] at H
   by_cases ib : agb = true
   ·subst ib; rw [if_pos rfl] at H; obtain ⟨azx, adc⟩ : ∃ y_ : List (S38), y_ = (([] : List (S38))) := ⟨_, rfl⟩; replace H : (some (azx, false)) = some (r1, r2) := by first | (rw [adc]; with_reducible exact H) | (have H2_ := (Option.bind_some _ _).symm.trans H; rw [adc]; with_reducible exact H2_) | (have H2_ := (Option.bind_some _ _).symm.trans H; with_reducible exact H2_) | with_reducible exact H | (rw [adc]; exact H) | exact H
    have aqn := Aside0.mk adc; clear adc; simp only [Option.some.injEq, Prod.mk.injEq] at H; obtain ⟨rfl, rfl⟩ := H; go_wp2_with (first | ((with_reducible refine gate_dst (N := 31) rfl ?_); refine Kd.R_lit k38 _ 38 ?hg (N := 31) ?hd (xs := ([] : List (S38))) (inner := []) (ok := fun _ => True) (okp := fun _ => True) ?hr ?hp (fun _ hk => hk) trivial (Below.refl _ _) (Nat.le_refl _) (by simp) ?_; (case hd => rfl); (case hg => rfl); (case hr => first | (go_simp; done) | (go_simp; rfl)); (case hp => exact (Reps.none _ _)); intro be4 w22 ade hb hg_ hnew_; clear hg_ hnew_; (first | rw [← aqn.out] at ade | (simp only [Int.reduceToNat] at ade; rw [← aqn.out] at ade)); have azy := ak (Kd.R_lower ade (below_size (z_5 HB.out ln.out))); replace iz := bb iz hb; replace HB := ak (below_step (z_5 HB.out ln.out) hb); clear hb ade)); go_ret2; exact ⟨_, z_17, z_7 azy.out, z_5 HB.out ln.out⟩
   ·replace ib := Bool.eq_false_iff.mpr ib; subst ib; rw [if_neg (show ¬ (false = true) by decide)] at H; replace H := Option.bind_eq_some_iff.mp H; obtain ⟨vd, aam, H⟩ := H; have A24 := Aside0.mk aam; clear aam; have H' := Aside0.mk H; clear H; obtain ⟨ajc, ajd, aje, ajf, ajg, ajh⟩ := cf iz.out; go_wp2_with (first | ((with_reducible refine gate_callee (f := 41) rfl ?_); refine gl_ 36 Try.func41 #[.agg #[.string ae, .slice am ac.length an, .slice ar ab.length ao], .slice A1 l1.length c1, .slice A2 l2.length c2, .int .i64 a3] ?_; refine (spec_l23Lay.calls kj4 ae _ _ ac _ _ ab _ _ l1 _ _ l2 a3 vd _ (z_25 du.out HB.out) eb.out (z_25 dk.out HB.out) ef.out (z_25 el.out HB.out) ex.out (z_25 ff.out HB.out) gb.out A24.out).mono ?_; rintro e w26 ⟨azz, rfl, aq, hb⟩; refine ⟨_, rfl, ?_⟩; have b0a := ak (Kd.R_lower aq (below_size (z_5 HB.out ln.out))); replace iz := bb iz hb; replace HB := ak (below_step (z_5 HB.out ln.out) hb); (try clear hb); (try clear hb2); (try clear hk); (try clear hi); (try clear aq)))
    go_loopg [11] kj4 (fun kq v11 w' => ∃ (pt : Int), v11 = .int .i64 pt ∧ Aside0 (spec_Layout.l0 kq vd pt = some (r1, r2)) ∧ Aside0 (kq ≤ kj4) ∧ Aside0 (Kd.R k38 38 w' w.heap.size (fun _ => True) azz vd) ∧ Aside0 (w'.heap[aga]? = some (.cells #[.string ae, (.slice am ac.length an), (.slice ar ab.length ao)] 27 (0, 0))) ∧ Aside0 (Below w.heap.size w w'))
    case atStart => exact ⟨(0), z_6, H', ⟨Nat.le_refl _⟩, ⟨z_7 b0a.out⟩, ⟨z_8 iz.out⟩, ⟨z_5 HB.out ln.out⟩⟩
    case round =>
     clear H'; (try clear c8); (try clear ew); (try clear dw); (try clear ly); (try clear tn); (try clear ib); (try clear sp); (try clear sq); (try clear sr); (try clear a0p); (try clear a0q); (try clear a0r); (try clear aek); (try clear ael); (try clear aem); (try clear abx); (try clear aby); (try clear abz); (try clear ajc); (try clear ajd); (try clear aje); (try clear su); (try clear sv); (try clear sw); (try clear a0s); (try clear a0t); (try clear a0u); (try clear aen); (try clear aeo); (try clear aep); (try clear ac0); (try clear ac1); (try clear ac2); (try clear ajf); (try clear ajg); (try clear ajh); obtain ⟨pt, rfl, HA, HK2, ik, iz, HB⟩ := hrel
     cases gk with
     | zero => exact absurd HA.out (by simp [spec_Layout.l0])
     | succ k2 =>
      have H := HA.out; clear HA; simp only [spec_Layout.l0] at H
      by_cases ma : pt < (vd.length : Int)
      ·rw [if_pos ma] at H; have a9o := decide_eq_true ma; clear ma
       by_cases xt : 0 ≤ pt
       ·rw [if_pos xt] at H; have at0 := decide_eq_true xt; clear xt
        by_cases og : ((rd_T38 vd pt).f2) > 65536
        ·rw [if_pos og] at H; have ah0 : decide (65536 < ((rd_T38 vd pt).f2)) = true := decide_eq_true og; clear og; obtain ⟨b0b, adf⟩ : ∃ y_ : List (S38), y_ = (([] : List (S38))) := ⟨_, rfl⟩; replace H : (some (b0b, false)) = some (r1, r2) := by first | (rw [adf]; with_reducible exact H) | (have H2_ := (Option.bind_some _ _).symm.trans H; rw [adf]; with_reducible exact H2_) | (have H2_ := (Option.bind_some _ _).symm.trans H; with_reducible exact H2_) | with_reducible exact H | (rw [adf]; exact H) | exact H
         have aqo := Aside0.mk adf; clear adf; simp only [Option.some.injEq, Prod.mk.injEq] at H; obtain ⟨rfl, rfl⟩ := H; obtain ⟨atn, ato, ahm⟩ := Kd.R_slice ik.out; subst ahm; have a4y : 0 ≤ (pt : Int) := of_decide_eq_true z_9; have a4z : pt < (vd.length : Int) := of_decide_eq_true z_9; obtain ⟨b0c, akp, b0d, b0e, b0f⟩ := at_T38 (Kd.R_reads' ik.out).2.2 pt a4y a4z; cases akp; replace a4y := eq_true a4y; replace a4z := eq_true a4z; go_wp2_with (first | ((with_reducible refine gate_dst (N := 49) rfl ?_); refine Kd.R_lit k38 _ 38 ?hg (N := 49) ?hd (xs := ([] : List (S38))) (inner := []) (ok := fun _ => True) (okp := fun _ => True) ?hr ?hp (fun _ hk => hk) trivial (Below.refl _ _) (Nat.le_refl _) (by simp) ?_; (case hd => rfl); (case hg => rfl); (case hr => first | (go_simp; done) | (go_simp; rfl)); (case hp => exact (Reps.none _ _)); intro be5 w31 a8a hb hg_ hnew_; clear hg_ hnew_; (first | rw [← aqo.out] at a8a | (simp only [Int.reduceToNat] at a8a; rw [← aqo.out] at a8a)); have b0g := ak (Kd.R_lower (Kd.R_new' a8a (Kd.R_lt (z_7 ik.out))) (below_size (z_5 HB.out ln.out))); replace ik := ak (Kd.R_elder' (z_7 ik.out) (Kd.R_base a8a) hb); replace iz := bb iz hb; replace HB := ak (below_step (z_5 HB.out ln.out) hb); clear hb a8a))
         go_ret2; exact ⟨_, z_17, z_16 b0g.out, z_5 HB.out ln.out⟩
        ·rw [if_neg og] at H; have ah0 : decide (65536 < ((rd_T38 vd pt).f2)) = false := decide_eq_false og; clear og; have H' := Aside0.mk H; clear H; obtain ⟨atp, atq, ahn⟩ := Kd.R_slice ik.out; subst ahn; have a4y : 0 ≤ (pt : Int) := of_decide_eq_true z_9; have a4z : pt < (vd.length : Int) := of_decide_eq_true z_9; obtain ⟨b0c, akp, b0d, b0e, b0f⟩ := at_T38 (Kd.R_reads' ik.out).2.2 pt a4y a4z; cases akp; replace a4y := eq_true a4y; replace a4z := eq_true a4z; go_wp2; go_roundg k2
         case measure => have := HJ4.out; have := HK2.out; omega
         case rel => exact ⟨(wrap64 (pt + 1)), z_6, H', ⟨z_20 HJ4.out HK2.out⟩, ⟨z_7 ik.out⟩, ⟨z_8 iz.out⟩, ⟨z_5 HB.out ln.out⟩⟩
       ·rw [if_neg xt] at H; exact absurd H (by simp)
      ·rw [if_neg ma] at H; have a9o := decide_eq_false ma; clear ma; simp only [Option.some.injEq, Prod.mk.injEq] at H; obtain ⟨rfl, rfl⟩ := H; obtain ⟨b0h, b0i, akq⟩ := Kd.R_slice ik.out; subst akq; go_wp2; go_ret2; exact ⟨_, z_17, z_7 ik.out, z_5 HB.out ln.out⟩
end Go.Proofs.Ytdphpmejjlgpnaa.PFnTreesBent

