import Derived.Test.YtdphpmejjlgpnaaD0
import Derived.Test.YtdphpmejjlgpnaaD2
import Derived.Test.YtdphpmejjlgpnaaD4
import Derived.Test.YtdphpmejjlgpnaaDZ
set_option linter.unusedVariables false
set_option linter.unusedSimpArgs false
set_option linter.unusedSectionVars false
namespace Go.Proofs.Ytdphpmejjlgpnaa.PFnTreesBent
open Go.RowKit Go.Proofs.YtdphpmejjlgpnaaW.PrintWords Go.Proofs.YtdphpmejjlgpnaaW.PrintLast Go.Proofs.YtdphpmejjlgpnaaW.PrintMore Go.Proofs.Ytdphpmejjlgpnaa.Short
attribute [local go_sem] max2_int min2_int max_two min_two max_three min_three max_four min_four
mutual
def impl_Layout.j0 : Nat → List ByteArray → List Int → Int → Bool → ByteArray → List ByteArray → List (S27) → Option ((List (S38)) × Bool)
 | 0, _, _, _, _, _, _, _ => none
 | k + 1, x1, x2, x3, x34, aex, aey, aez => if x34 = true then (some (([] : List (S38)), false)) else (impl_Layout.l0 k x1 x2 x3 x2 (x2.length : Int) 0 aex aey aez)
def impl_Layout.l0 : Nat → List ByteArray → List Int → Int → List Int → Int → Int → ByteArray → List ByteArray → List (S27) → Option ((List (S38)) × Bool)
 | 0, _, _, _, _, _, _, _, _, _ => none
 | k + 1, x1, x2, x3, x35, x36, x37, aex, aey, aez => if x37 < x36 then (if 0 ≤ x37 then (if x37 < (x35.length : Int) then ((impl_within.f (rd x35 x37) 0 32767).bind fun ai6 => (if ai6 = true then (impl_Layout.l0 k x1 x2 x3 x35 x36 (wrap64 (x37 + 1)) aex aey aez) else (some (([] : List (S38)), false)))) else (none)) else (none)) else ((impl_spans.f k aex aey aez x1 x2 x3).bind fun jo => (impl_Layout.l1 k jo jo (jo.length : Int) 0))
def impl_Layout.l1 : Nat → List (S38) → List (S38) → Int → Int → Option ((List (S38)) × Bool)
 | 0, _, _, _, _ => none
 | k + 1, gi, x50, x51, x52 => if x52 < x51 then (if 0 ≤ x52 then (if x52 < (x50.length : Int) then (if ((rd_T38 x50 x52).f2) > 65536 then (some (([] : List (S38)), false)) else (impl_Layout.l1 k gi x50 x51 (wrap64 (x52 + 1)))) else (none)) else (none)) else (some (gi, true))
end
def impl_Layout.f (k : Nat) (ae : ByteArray) (ac : List ByteArray) (ab : List (S27)) (l1 : List ByteArray) (l2 : List Int) (a3 : Int) : Option ((List (S38)) × Bool) := (impl_SegOk.f k ae ac ab).bind fun aae => (if aae = true then ((impl_within.f a3 0 65535).bind fun aaf => (if aaf = true then (if (Int.tmod a3 2) = 0 then (impl_Layout.j0 k l1 l2 a3 ((l1.length : Int) != (l2.length : Int)) ae ac ab) else (impl_Layout.j0 k l1 l2 a3 true ae ac ab)) else (impl_Layout.j0 k l1 l2 a3 true ae ac ab))) else (impl_Layout.j0 k l1 l2 a3 true ae ac ab))
theorem impl_Layout.mono_l : ∀ k, (∀ y0 y1 y2 y3 y4 y5 y6, LeO (impl_Layout.j0 k y0 y1 y2 y3 y4 y5 y6) (impl_Layout.j0 (k + 1) y0 y1 y2 y3 y4 y5 y6)) ∧ (∀ y0 y1 y2 y3 y4 y5 y6 y7 y8, LeO (impl_Layout.l0 k y0 y1 y2 y3 y4 y5 y6 y7 y8) (impl_Layout.l0 (k + 1) y0 y1 y2 y3 y4 y5 y6 y7 y8)) ∧ (∀ y0 y1 y2 y3, LeO (impl_Layout.l1 k y0 y1 y2 y3) (impl_Layout.l1 (k + 1) y0 y1 y2 y3))
 | 0 => ⟨fun _ _ _ _ _ _ _ r h => by simp [impl_Layout.j0] at h, fun _ _ _ _ _ _ _ _ _ r h => by simp [impl_Layout.l0] at h, fun _ _ _ _ r h => by simp [impl_Layout.l1] at h⟩
 | k + 1 => by
  obtain ⟨ih0, ih1, ih2⟩ := impl_Layout.mono_l k; refine ⟨?_, ?_, ?_⟩
  all_goals
   intros
   first | unfold impl_Layout.j0 | unfold impl_Layout.l0 | unfold impl_Layout.l1
   repeat' first
   | (with_reducible exact ih0 _ _ _ _ _ _ _)
   | (with_reducible exact ih1 _ _ _ _ _ _ _ _ _)
   | (with_reducible exact ih2 _ _ _ _)
   | (with_reducible exact impl_SegOk.mono _ _ _ _)
   | (with_reducible exact impl_spans.mono _ _ _ _ _ _ _)
   | (with_reducible exact LeO.refl _)
   | (with_reducible exact LeO.none _)
   | (with_reducible refine LeO.ite ?_ ?_)
   | (with_reducible refine LeO.bind ?_ (fun _ => ?_))
   | exact ih0 _ _ _ _ _ _ _
   | exact ih1 _ _ _ _ _ _ _ _ _
   | exact ih2 _ _ _ _
   | exact impl_SegOk.mono _ _ _ _
   | exact impl_spans.mono _ _ _ _ _ _ _
   | exact LeO.none _
   | refine LeO.ite ?_ ?_
   | refine LeO.bind ?_ (fun _ => ?_)
theorem impl_Layout.mono : ∀ a0 a1 a2 a3 a4 a5 k, LeO (impl_Layout.f k a0 a1 a2 a3 a4 a5) (impl_Layout.f (k + 1) a0 a1 a2 a3 a4 a5) := by
 intro a0 a1 a2 a3 a4 a5 k; obtain ⟨ih0, ih1, ih2⟩ := impl_Layout.mono_l k; unfold impl_Layout.f
 repeat' first
  | (with_reducible exact ih0 _ _ _ _ _ _ _)
  | (with_reducible exact ih1 _ _ _ _ _ _ _ _ _)
  | (with_reducible exact ih2 _ _ _ _)
  | (with_reducible exact impl_SegOk.mono _ _ _ _)
  | (with_reducible exact impl_spans.mono _ _ _ _ _ _ _)
  | (with_reducible exact LeO.refl _)
  | (with_reducible exact LeO.none _)
  | (with_reducible refine LeO.ite ?_ ?_)
  | (with_reducible refine LeO.bind ?_ (fun _ => ?_))
  | exact ih0 _ _ _ _ _ _ _
  | exact ih1 _ _ _ _ _ _ _ _ _
  | exact ih2 _ _ _ _
  | exact impl_SegOk.mono _ _ _ _
  | exact impl_spans.mono _ _ _ _ _ _ _
  | exact LeO.none _
  | refine LeO.ite ?_ ?_
  | refine LeO.bind ?_ (fun _ => ?_)
set_option maxHeartbeats 8000000 in
set_option maxRecDepth 100000 in
theorem impl_Layout.calls (k : Nat) (ae : ByteArray) (am : Option Addr) (an : Nat) (ac : List ByteArray) (ar : Option Addr) (ao : Nat) (ab : List (S27)) (A1 : Option Addr) (c1 : Nat) (l1 : List ByteArray) (A2 : Option Addr) (c2 : Nat) (l2 : List Int) (a3 : Int) (r1 : List (S38)) (r2 : Bool) (w : World) (hr0_1 : Kd.C Kd.string w am ac.length ac) (hc0_1 : ac.length ≤ an) (hr0_2 : Kd.C k27 w ar ab.length ab) (hc0_2 : ab.length ≤ ao) (hr1 : Kd.C Kd.string w A1 l1.length l1) (hc1 : l1.length ≤ c1) (hr2 : Kd.C (Kd.int .i64) w A2 l2.length l2) (hc2 : l2.length ≤ c2) (h : impl_Layout.f k ae ac ab l1 l2 a3 = some (r1, r2)) :
 Calls Try.prog 7 #[.agg #[.string ae, .slice am ac.length an, .slice ar ab.length ao], .slice A1 l1.length c1, .slice A2 l2.length c2, .int .i64 a3] w fun e w' => ∃ v0_ : Value, e = .returned (.tuple #[v0_, .bool r2]) ∧ Kd.R k38 38 w' w.heap.size (fun _ => True) v0_ r1 ∧ Below w.heap.size w w' := by
 have hu27 := Try.underlying27; have hu38 := Try.underlying38; have du := Aside0.mk hr0_1; have eb := Aside0.mk hc0_1; clear hr0_1 hc0_1; have dk := Aside0.mk hr0_2; have ef := Aside0.mk hc0_2; clear hr0_2 hc0_2; have el := Aside0.mk hr1; have ex := Aside0.mk hc1; clear hr1 hc1; have ff := Aside0.mk hr2; have gb := Aside0.mk hc2; clear hr2 hc2; have HB := Aside0.mk (Below.refl w.heap.size w); have H : ((impl_SegOk.f k ae ac ab).bind fun aae => (if aae = true then ((impl_within.f a3 0 65535).bind fun aaf => (if aaf = true then (if (Int.tmod a3 2) = 0 then (impl_Layout.j0 k l1 l2 a3 ((l1.length : Int) != (l2.length : Int)) ae ac ab) else (impl_Layout.j0 k l1 l2 a3 true ae ac ab)) else (impl_Layout.j0 k l1 l2 a3 true ae ac ab))) else (impl_Layout.j0 k l1 l2 a3 true ae ac ab))) = some (r1, r2) := h; clear h; have HC5 := Aside0.mk H; clear H
 go_enter Try.func7, Try.ntmps7
 go_upto_region 1 with (first | ((with_reducible refine gate_dst (N := 4) rfl ?_); (try (refine gate_guard (by rfl) ?_; dsimp only)); refine box_event ?hg (N := 4) ?hd (cs := #[.string ae, .slice am ac.length an, .slice ar ab.length ao]) (t := 27) ?hr ?_; (case hd => rfl); (case hg => rfl); (case hr => first | (go_simp; done) | (go_simp; rfl)); intro rm hg w6 hbox hb; have gm := ak hbox; have b5l := ak ((z_3 HB.out : w.heap.size ≤ rm)); have jz := ak ((z_3 HB.out : w.heap.size ≤ rm)); replace HB := ak (below_step (z_4 HB.out) hb); clear hb hbox hg))
 (try simp only [Act.put, List.setIfInBounds_toArray, List.set_cons_zero, List.set_cons_succ])
 go_cut [34] (fun v34 wc => ∃ (kq : Nat) (af0 : Bool), v34 = .bool af0 ∧ Aside0 (impl_Layout.j0 kq l1 l2 a3 af0 ae ac ab = some (r1, r2)) ∧ Aside0 (kq ≤ k) ∧ Aside0 (wc.heap[rm]? = some (.cells #[.string ae, (.slice am ac.length an), (.slice ar ab.length ao)] 27 (0, 0))) ∧ Aside0 (Below w.heap.size w wc))
 case first =>
  have H := HC5.out; clear HC5; replace H := Option.bind_eq_some_iff.mp H; obtain ⟨aae, kk, H⟩ := H; have A7 := Aside0.mk kk; clear kk
  by_cases c8 : aae = true
  ·subst c8; rw [if_pos rfl] at H; replace H := Option.bind_eq_some_iff.mp H; obtain ⟨aaf, jn, H⟩ := H; have A9 := Aside0.mk jn; clear jn
   by_cases ew : aaf = true
   ·subst ew; rw [if_pos rfl] at H
    by_cases dw : (Int.tmod a3 2) = 0
    ·rw [if_pos dw] at H; have ly : ((Int.tmod a3 2) == 0) = true := beq_iff_eq.mpr dw; have tn : ((Int.tmod a3 2) != 0) = false := bne_eq_false_iff_eq.mpr dw; clear dw; (first | rw [ly] | (simp only [i64_w, i32_w]; rw [ly]) | skip); have H' := Aside0.mk H; clear H; obtain ⟨nx, nz, oa, ob, oc, od⟩ := cf gm.out; go_wp2_with (first | ((with_reducible refine gate_callee (f := 28) rfl ?_); refine gl_ 16 Try.func28 #[.agg #[.string ae, .slice am ac.length an, .slice ar ab.length ao]] ?_; refine (impl_SegOk.calls k ae _ _ ac _ _ ab true _ (z_25 du.out HB.out) eb.out (z_25 dk.out HB.out) ef.out A7.out).mono ?_; rintro e w13 ⟨rfl, hb⟩; refine ⟨_, rfl, ?_⟩; replace gm := bb gm hb; replace HB := ak (below_step (z_5 HB.out jz.out) hb); (try clear hb); (try clear hb2); (try clear hk); (try clear hi)) | (go_at_call 29; (with_reducible refine (impl_within.calls a3 0 65535 true _ A9.out).mono ?_); rintro e w' ⟨rfl, ⟨nd, rfl⟩⟩))
     go_meet
     case rel => exact ⟨_, (((l1.length : Int) != (l2.length : Int))), z_6, H', ⟨z_19⟩, ⟨z_8 gm.out⟩, ⟨z_5 HB.out jz.out⟩⟩
    ·rw [if_neg dw] at H; have ly : ((Int.tmod a3 2) == 0) = false := beq_eq_false_iff_ne.mpr dw; have tn : ((Int.tmod a3 2) != 0) = true := bne_iff_ne.mpr dw; (first | rw [ly] | (simp only [i64_w, i32_w]; rw [ly]) | skip); have H' := Aside0.mk H; clear H; obtain ⟨qz, ra, rc, re, rf, rg⟩ := cf gm.out; go_wp2_with (first | ((with_reducible refine gate_callee (f := 28) rfl ?_); refine gl_ 16 Try.func28 #[.agg #[.string ae, .slice am ac.length an, .slice ar ab.length ao]] ?_; refine (impl_SegOk.calls k ae _ _ ac _ _ ab true _ (z_25 du.out HB.out) eb.out (z_25 dk.out HB.out) ef.out A7.out).mono ?_; rintro e vr ⟨rfl, hb⟩; refine ⟨_, rfl, ?_⟩; replace gm := bb gm hb; replace HB := ak (below_step (z_5 HB.out jz.out) hb); (try clear hb); (try clear hb2); (try clear hk); (try clear hi)) | (go_at_call 29; (with_reducible refine (impl_within.calls a3 0 65535 true _ A9.out).mono ?_); rintro e w' ⟨rfl, ⟨nd, rfl⟩⟩))
     go_meet
     case rel => exact ⟨_, (true), z_6, H', ⟨z_19⟩, ⟨z_8 gm.out⟩, ⟨z_5 HB.out jz.out⟩⟩
   ·replace ew := Bool.eq_false_iff.mpr ew; subst ew; rw [if_neg (show ¬ (false = true) by decide)] at H; have H' := Aside0.mk H; clear H; obtain ⟨aag, aah, aai, aaj, aak, aal⟩ := cf gm.out; go_wp2_with (first | ((with_reducible refine gate_callee (f := 28) rfl ?_); refine gl_ 16 Try.func28 #[.agg #[.string ae, .slice am ac.length an, .slice ar ab.length ao]] ?_; refine (impl_SegOk.calls k ae _ _ ac _ _ ab true _ (z_25 du.out HB.out) eb.out (z_25 dk.out HB.out) ef.out A7.out).mono ?_; rintro e qh ⟨rfl, hb⟩; refine ⟨_, rfl, ?_⟩; replace gm := bb gm hb; replace HB := ak (below_step (z_5 HB.out jz.out) hb); (try clear hb); (try clear hb2); (try clear hk); (try clear hi)) | (go_at_call 29; (with_reducible refine (impl_within.calls a3 0 65535 false _ A9.out).mono ?_); rintro e w' ⟨rfl, ⟨nd, rfl⟩⟩))
    go_meet
    case rel => exact ⟨_, (true), z_6, H', ⟨z_19⟩, ⟨z_8 gm.out⟩, ⟨z_5 HB.out jz.out⟩⟩
  ·replace c8 := Bool.eq_false_iff.mpr c8; subst c8; rw [if_neg (show ¬ (false = true) by decide)] at H; have H' := Aside0.mk H; clear H; obtain ⟨xm, xn, xo, xp, xq, xr⟩ := cf gm.out; go_wp2_with (first | ((with_reducible refine gate_callee (f := 28) rfl ?_); refine gl_ 16 Try.func28 #[.agg #[.string ae, .slice am ac.length an, .slice ar ab.length ao]] ?_; refine (impl_SegOk.calls k ae _ _ ac _ _ ab false _ (z_25 du.out HB.out) eb.out (z_25 dk.out HB.out) ef.out A7.out).mono ?_; rintro e w19 ⟨rfl, hb⟩; refine ⟨_, rfl, ?_⟩; replace gm := bb gm hb; replace HB := ak (below_step (z_5 HB.out jz.out) hb); (try clear hb); (try clear hb2); (try clear hk); (try clear hi)))
   go_meet
   case rel => exact ⟨_, (true), z_6, H', ⟨z_19⟩, ⟨z_8 gm.out⟩, ⟨z_5 HB.out jz.out⟩⟩
 case rest =>
  clear HC5; (try clear c8); (try clear ew); (try clear dw); (try clear ly); (try clear tn); (try clear nx); (try clear nz); (try clear oa); (try clear qz); (try clear ra); (try clear rc); (try clear aag); (try clear aah); (try clear aai); (try clear xm); (try clear xn); (try clear xo); (try clear ob); (try clear oc); (try clear od); (try clear re); (try clear rf); (try clear rg); (try clear aaj); (try clear aak); (try clear aal); (try clear xp); (try clear xq); (try clear xr); obtain ⟨kq, af0, rfl, HA, HJ4, gm, HB⟩ := hcut
  cases kq with
  | zero => exact absurd HA.out (by simp [impl_Layout.j0])
  | succ kj4 =>
   have H := HA.out; clear HA; simp only [impl_Layout.j0] at H
   by_cases lz : af0 = true
   ·subst lz; rw [if_pos rfl] at H; simp only [Option.some.injEq, Prod.mk.injEq] at H; obtain ⟨rfl, rfl⟩ := H; go_wp2; go_ret2; exact ⟨_, z_17, z_28, z_5 HB.out jz.out⟩
   ·replace lz := Bool.eq_false_iff.mpr lz; subst lz; rw [if_neg (show ¬ (false = true) by decide)] at H; have H' := Aside0.mk H; clear H; go_wp2
    go_loopg [37] kj4 (fun kq v37 w' => ∃ (ol : Int), v37 = .int .i64 ol ∧ Aside0 (impl_Layout.l0 kq l1 l2 a3 l2 (l2.length : Int) ol ae ac ab = some (r1, r2)) ∧ Aside0 (kq ≤ kj4) ∧ Aside0 (w'.heap[rm]? = some (.cells #[.string ae, (.slice am ac.length an), (.slice ar ab.length ao)] 27 (0, 0))) ∧ Aside0 (Below w.heap.size w w'))
    case atStart => exact ⟨(0), z_6, H', ⟨Nat.le_refl _⟩, ⟨z_8 gm.out⟩, ⟨z_5 HB.out jz.out⟩⟩
    case round =>
     clear H'; (try clear c8); (try clear ew); (try clear dw); (try clear ly); (try clear tn); (try clear lz); (try clear nx); (try clear nz); (try clear oa); (try clear qz); (try clear ra); (try clear rc); (try clear aag); (try clear aah); (try clear aai); (try clear xm); (try clear xn); (try clear xo); (try clear ob); (try clear oc); (try clear od); (try clear re); (try clear rf); (try clear rg); (try clear aaj); (try clear aak); (try clear aal); (try clear xp); (try clear xq); (try clear xr); obtain ⟨ol, rfl, HA, HK2, gm, HB⟩ := hrel
     cases gk with
     | zero => exact absurd HA.out (by simp [impl_Layout.l0])
     | succ k2 =>
      have H := HA.out; clear HA; simp only [impl_Layout.l0] at H
      by_cases ib : ol < (l2.length : Int)
      ·rw [if_pos ib] at H; have a6c := decide_eq_true ib; clear ib
       by_cases mc : 0 ≤ ol
       ·rw [if_pos mc] at H; have a6n := decide_eq_true mc; clear mc
        by_cases ty : ol < (l2.length : Int)
        ·rw [if_pos ty] at H; have auf := decide_eq_true ty; clear ty; replace H := Option.bind_eq_some_iff.mp H; obtain ⟨ai6, aam, H⟩ := H; have A24 := Aside0.mk aam; clear aam
         by_cases c25 : ai6 = true
         ·subst c25; rw [if_pos rfl] at H; have H' := Aside0.mk H; clear H; have a0z : 0 ≤ (ol : Int) := of_decide_eq_true z_9; have a1a : ol < (l2.length : Int) := of_decide_eq_true z_9; obtain ⟨aug, ai7, a1b⟩ := Kd.at_int ff.out ol a0z a1a; cases ai7; replace a1b := (HB.out.cell (World.block_lt_of_cell? w _ a1b)).trans a1b; replace a0z := eq_true a0z; replace a1a := eq_true a1a; go_wp2_with (first | ((with_reducible refine gate_callee (f := 29) rfl ?_); refine gl_ 42 Try.func29 #[.int .i64 (rd l2 ol), .int .i64 0, .int .i64 32767] ?_; (with_reducible refine (impl_within.calls (rd l2 ol) 0 32767 true _ A24.out).mono ?_); rintro e w' ⟨rfl, ⟨nd, rfl⟩⟩; refine ⟨_, rfl, ?_⟩)); go_roundg k2
          case measure => have := HJ4.out; have := HK2.out; omega
          case rel => exact ⟨(wrap64 (ol + 1)), z_6, H', ⟨z_20 HJ4.out HK2.out⟩, ⟨z_8 gm.out⟩, ⟨z_5 HB.out jz.out⟩⟩
         ·replace c25 := Bool.eq_false_iff.mpr c25; subst c25; rw [if_neg (show ¬ (false = true) by decide)] at H; simp only [Option.some.injEq, Prod.mk.injEq] at H; obtain ⟨rfl, rfl⟩ := H; have a0z : 0 ≤ (ol : Int) := of_decide_eq_true z_9; have a1a : ol < (l2.length : Int) := of_decide_eq_true z_9; obtain ⟨aug, ai7, a1b⟩ := Kd.at_int ff.out ol a0z a1a; cases ai7; replace a1b := (HB.out.cell (World.block_lt_of_cell? w _ a1b)).trans a1b; replace a0z := eq_true a0z; replace a1a := eq_true a1a; go_wp2_with (first | ((with_reducible refine gate_callee (f := 29) rfl ?_); refine gl_ 42 Try.func29 #[.int .i64 (rd l2 ol), .int .i64 0, .int .i64 32767] ?_; (with_reducible refine (impl_within.calls (rd l2 ol) 0 32767 false _ A24.out).mono ?_); rintro e w' ⟨rfl, ⟨nd, rfl⟩⟩; refine ⟨_, rfl, ?_⟩)); go_ret2; exact ⟨_, z_17, z_28, z_5 HB.out jz.out⟩
        ·rw [if_neg ty] at H; exact absurd H (by simp)
       ·rw [if_neg mc] at H; exact absurd H (by simp)
      ·rw [if_neg ib] at H; have a6c := decide_eq_false ib; clear ib; replace H := Option.bind_eq_some_iff.mp H; obtain ⟨jo, amr, H⟩ := H; have A26 := Aside0.mk amr; clear amr; have H' := Aside0.mk H; clear H; obtain ⟨auh, aui, auj, auk, aul, aum⟩ := cf gm.out; go_wp2_with (first | ((with_reducible refine gate_callee (f := 30) rfl ?_); refine gl_ 49 Try.func30 #[.agg #[.string ae, .slice am ac.length an, .slice ar ab.length ao], .slice A1 l1.length c1, .slice A2 l2.length c2, .int .i64 a3] ?_; refine (impl_spans.calls k2 ae _ _ ac _ _ ab _ _ l1 _ _ l2 a3 jo _ (z_25 du.out HB.out) eb.out (z_25 dk.out HB.out) ef.out (z_25 el.out HB.out) ex.out (z_25 ff.out HB.out) gb.out A26.out).mono ?_; rintro e w28 ⟨b5m, rfl, aq, hb⟩; refine ⟨_, rfl, ?_⟩; have ai8 := ak (Kd.R_lower aq (below_size (z_5 HB.out jz.out))); replace gm := bb gm hb; replace HB := ak (below_step (z_5 HB.out jz.out) hb); (try clear hb); (try clear hb2); (try clear hk); (try clear hi); (try clear aq); obtain ⟨ams, amt, aun⟩ := Kd.R_slice ai8.out; subst aun))
       go_loopg [52] k2 (fun kq v52 w' => ∃ (lc : Int), v52 = .int .i64 lc ∧ Aside0 (impl_Layout.l1 kq jo jo (jo.length : Int) lc = some (r1, r2)) ∧ Aside0 (kq ≤ k2) ∧ Aside0 (Kd.R k38 38 w' w.heap.size (fun _ => True) (.slice ams jo.length amt) jo) ∧ Aside0 (Kd.R k38 38 w' w.heap.size (fun _ => True) (.slice ams jo.length amt) jo) ∧ Aside0 (w'.heap[rm]? = some (.cells #[.string ae, (.slice am ac.length an), (.slice ar ab.length ao)] 27 (0, 0))) ∧ Aside0 (Below w.heap.size w w'))
       case atStart => exact ⟨(0), z_6, H', ⟨Nat.le_refl _⟩, ⟨z_7 ai8.out⟩, ⟨z_7 ai8.out⟩, ⟨z_8 gm.out⟩, ⟨z_5 HB.out jz.out⟩⟩
       case round =>
        clear H'; (try clear c8); (try clear ew); (try clear dw); (try clear ly); (try clear tn); (try clear lz); (try clear ib); (try clear a6c); (try clear mc); (try clear a6n); (try clear ty); (try clear auf); (try clear c25); (try clear nx); (try clear nz); (try clear oa); (try clear qz); (try clear ra); (try clear rc); (try clear aag); (try clear aah); (try clear aai); (try clear xm); (try clear xn); (try clear xo); (try clear auh); (try clear aui); (try clear auj); (try clear ob); (try clear oc); (try clear od); (try clear re); (try clear rf); (try clear rg); (try clear aaj); (try clear aak); (try clear aal); (try clear xp); (try clear xq); (try clear xr); (try clear auk); (try clear aul); (try clear aum); (try clear a1b); (try clear a0z); (try clear a1a); obtain ⟨lc, rfl, HA, HK3, a6o, a3k, gm, HB⟩ := hrel
        cases gk with
        | zero => exact absurd HA.out (by simp [impl_Layout.l1])
        | succ k3 =>
         have H := HA.out; clear HA; simp only [impl_Layout.l1] at H
         by_cases c30 : lc < (jo.length : Int)
         ·rw [if_pos c30] at H; have auo := decide_eq_true c30; clear c30
          by_cases ov : 0 ≤ lc
          ·rw [if_pos ov] at H; have aup := decide_eq_true ov; clear ov
           by_cases yd : lc < (jo.length : Int)
           ·rw [if_pos yd] at H; have b5n := decide_eq_true yd; clear yd
            by_cases me : ((rd_T38 jo lc).f2) > 65536
            ·rw [if_pos me] at H; have ye : decide (65536 < ((rd_T38 jo lc).f2)) = true := decide_eq_true me; clear me; simp only [Option.some.injEq, Prod.mk.injEq] at H; obtain ⟨rfl, rfl⟩ := H; have a3l : 0 ≤ (lc : Int) := of_decide_eq_true z_9; have a3m : lc < (jo.length : Int) := of_decide_eq_true z_9; obtain ⟨auq, ai9, aur, aus, aut⟩ := at_T38 (Kd.R_reads' a3k.out).2.2 lc a3l a3m; cases ai9; replace a3l := eq_true a3l; replace a3m := eq_true a3m; go_wp2_with (first | ((with_reducible refine gate_dst (N := 14) rfl ?_); (try (refine gate_guard (by rfl) ?_; dsimp only)); refine box_event ?hg (N := 14) ?hd (cs := #[.string (⟨#[]⟩ : ByteArray), .int .i64 0, .int .i64 0]) (t := 38) ?hr ?_; (case hd => rfl); (case hg => rfl); (case hr => first | (go_simp; done) | (go_simp; rfl)); intro lk hg w34 hbox hb; replace a6o := ak (Kd.R_below (Kd.R_elderB (z_7 a6o.out) lk (Nat.le_of_eq hg.symm)) hb); replace a3k := ak (Kd.R_below (Kd.R_elderB (z_7 a3k.out) lk (Nat.le_of_eq hg.symm)) hb); have rn := ak hbox; have auu := ak ((z_10 HB.out jz.out : w.heap.size ≤ lk)); have aia := ak ((z_10 HB.out jz.out : w.heap.size ≤ lk)); replace HB := ak (below_step (z_5 HB.out jz.out) hb); have a6p := ak ((z_29 gm.out : rm ≠ lk)); have aib := ak ((z_30 gm.out : lk ≠ rm)); replace gm := bb gm hb; clear hb hbox hg; have b5o := aib.out; have b5p := a6p.out; have atr := bc rn.out 0; have ats := bc rn.out 1; have att := bc rn.out 2; have atu := blk_frozen rn.out 0; have atv := blk_frozen rn.out 1; have atw := blk_frozen rn.out 2))
             go_ret2; exact ⟨_, z_17, z_28, z_11 HB.out jz.out aia.out⟩
            ·rw [if_neg me] at H; have ye : decide (65536 < ((rd_T38 jo lc).f2)) = false := decide_eq_false me; clear me; have H' := Aside0.mk H; clear H; have a3l : 0 ≤ (lc : Int) := of_decide_eq_true z_9; have a3m : lc < (jo.length : Int) := of_decide_eq_true z_9; obtain ⟨auq, ai9, aur, aus, aut⟩ := at_T38 (Kd.R_reads' a3k.out).2.2 lc a3l a3m; cases ai9; replace a3l := eq_true a3l; replace a3m := eq_true a3m; go_wp2_with (first | ((with_reducible refine gate_dst (N := 14) rfl ?_); (try (refine gate_guard (by rfl) ?_; dsimp only)); refine box_event ?hg (N := 14) ?hd (cs := #[.string (⟨#[]⟩ : ByteArray), .int .i64 0, .int .i64 0]) (t := 38) ?hr ?_; (case hd => rfl); (case hg => rfl); (case hr => first | (go_simp; done) | (go_simp; rfl)); intro lk hg w37 hbox hb; replace a6o := ak (Kd.R_below (Kd.R_elderB (z_7 a6o.out) lk (Nat.le_of_eq hg.symm)) hb); replace a3k := ak (Kd.R_below (Kd.R_elderB (z_7 a3k.out) lk (Nat.le_of_eq hg.symm)) hb); have rn := ak hbox; have auu := ak ((z_10 HB.out jz.out : w.heap.size ≤ lk)); have aia := ak ((z_10 HB.out jz.out : w.heap.size ≤ lk)); replace HB := ak (below_step (z_5 HB.out jz.out) hb); have a6p := ak ((z_29 gm.out : rm ≠ lk)); have aib := ak ((z_30 gm.out : lk ≠ rm)); replace gm := bb gm hb; clear hb hbox hg; have b5q := aib.out; have b5r := a6p.out; have b5s := bc rn.out 0; have b5t := bc rn.out 1; have b5u := bc rn.out 2; have b5v := blk_frozen rn.out 0; have b5w := blk_frozen rn.out 1; have b5x := blk_frozen rn.out 2))
             go_roundg k3
             case measure => have := HJ4.out; have := HK2.out; have := HK3.out; omega
             case rel => exact ⟨(wrap64 (lc + 1)), z_6, H', ⟨z_23 HJ4.out HK2.out HK3.out⟩, ⟨z_31 a6o.out⟩, ⟨z_31 a3k.out⟩, ⟨z_13 a6p.out gm.out⟩, ⟨z_11 HB.out jz.out aia.out⟩⟩
           ·rw [if_neg yd] at H; exact absurd H (by simp)
          ·rw [if_neg ov] at H; exact absurd H (by simp)
         ·rw [if_neg c30] at H; have auo := decide_eq_false c30; clear c30; simp only [Option.some.injEq, Prod.mk.injEq] at H; obtain ⟨rfl, rfl⟩ := H; go_wp2; go_ret2; exact ⟨_, z_17, z_7 a6o.out, z_5 HB.out jz.out⟩
def laws_sameTexts.l0 : Nat → List ByteArray → List ByteArray → Int → Option (Bool)
 | 0, _, _, _ => none
 | k + 1, x0, x1, x5 => if x5 < (x0.length : Int) then (if 0 ≤ x5 then (if x5 < (x1.length : Int) then (if (rdOf ByteArray.empty x0 x5).toList = (rdOf ByteArray.empty x1 x5).toList then (laws_sameTexts.l0 k x0 x1 (wrap64 (x5 + 1))) else (some false)) else (none)) else (none)) else (some true)
def laws_sameTexts.f (k : Nat) (l0 : List ByteArray) (l1 : List ByteArray) : Option (Bool) := if (l0.length : Int) = (l1.length : Int) then (laws_sameTexts.l0 k l0 l1 0) else (some false)
theorem laws_sameTexts.mono_l : ∀ k, (∀ y0 y1 y2, LeO (laws_sameTexts.l0 k y0 y1 y2) (laws_sameTexts.l0 (k + 1) y0 y1 y2))
 | 0 => fun _ _ _ r h => by simp [laws_sameTexts.l0] at h
 | k + 1 => by
  have ih0 := laws_sameTexts.mono_l k
  ·intro y0 y1 y2; unfold laws_sameTexts.l0
   repeat' first
   | (with_reducible exact ih0 _ _ _)
   | (with_reducible exact LeO.refl _)
   | (with_reducible exact LeO.none _)
   | (with_reducible refine LeO.ite ?_ ?_)
   | (with_reducible refine LeO.bind ?_ (fun _ => ?_))
   | exact ih0 _ _ _
   | exact LeO.none _
   | refine LeO.ite ?_ ?_
   | refine LeO.bind ?_ (fun _ => ?_)
theorem laws_sameTexts.mono : ∀ a0 a1 k, LeO (laws_sameTexts.f k a0 a1) (laws_sameTexts.f (k + 1) a0 a1) := by
 intro a0 a1 k; have ih0 := laws_sameTexts.mono_l k; unfold laws_sameTexts.f
 repeat' first
  | (with_reducible exact ih0 _ _ _)
  | (with_reducible exact LeO.refl _)
  | (with_reducible exact LeO.none _)
  | (with_reducible refine LeO.ite ?_ ?_)
  | (with_reducible refine LeO.bind ?_ (fun _ => ?_))
  | exact ih0 _ _ _
  | exact LeO.none _
  | refine LeO.ite ?_ ?_
  | refine LeO.bind ?_ (fun _ => ?_)
set_option maxHeartbeats 8000000 in
set_option maxRecDepth 100000 in
theorem laws_sameTexts.calls (k : Nat) (A0 : Option Addr) (c0 : Nat) (l0 : List ByteArray) (A1 : Option Addr) (c1 : Nat) (l1 : List ByteArray) (r : Bool) (w : World) (hr0 : Kd.C Kd.string w A0 l0.length l0) (hc0 : l0.length ≤ c0) (hr1 : Kd.C Kd.string w A1 l1.length l1) (hc1 : l1.length ≤ c1) (h : laws_sameTexts.f k l0 l1 = some r) :
 Calls Try.prog 8 #[.slice A0 l0.length c0, .slice A1 l1.length c1] w fun e w' => e = .returned (.bool r) ∧ Drawn0 w w' := by
 have hh := Aside0.mk hr0; have lw := Aside0.mk hc0; clear hr0 hc0; have el := Aside0.mk hr1; have ex := Aside0.mk hc1; clear hr1 hc1; have H : (if (l0.length : Int) = (l1.length : Int) then (laws_sameTexts.l0 k l0 l1 0) else (some false)) = some r := h; clear h
 by_cases c3 : (l0.length : Int) = (l1.length : Int)
 ·rw [if_pos c3] at H; have mw : ((l0.length : Int) == (l1.length : Int)) = true := beq_iff_eq.mpr c3; have af1 : ((l0.length : Int) != (l1.length : Int)) = false := bne_eq_false_iff_eq.mpr c3; have amu : (l0.length == l1.length) = true := by first | simpa using c3 | (simp at c3 ⊢; omega)
  clear c3; have H' := Aside0.mk H; clear H
  go_enter Try.func8, Try.ntmps8
  go_wp2
  repeat (go_quiet (fail); try go_wp2)
  go_loopg [5] k (fun kq v5 w' => ∃ (bn : Int), v5 = .int .i64 bn ∧ Aside0 (laws_sameTexts.l0 kq l0 l1 bn = some r) ∧ Aside0 (kq ≤ k) ∧ Drawn0 w w')
  case atStart => exact ⟨(0), z_6, H', ⟨Nat.le_refl _⟩, z_2⟩
  case round =>
   clear H'; (try clear c3); (try clear mw); (try clear af1); (try clear amu); obtain ⟨bn, rfl, HA, HK1, ⟨m1, rfl⟩⟩ := hrel
   cases gk with
   | zero => exact absurd HA.out (by simp [laws_sameTexts.l0])
   | succ k1 =>
    have H := HA.out; clear HA; simp only [laws_sameTexts.l0] at H
    by_cases c4 : bn < (l0.length : Int)
    ·rw [if_pos c4] at H; have kj := decide_eq_true c4; clear c4
     by_cases c5 : 0 ≤ bn
     ·rw [if_pos c5] at H; have kz := decide_eq_true c5; clear c5
      by_cases c6 : bn < (l1.length : Int)
      ·rw [if_pos c6] at H; have nw := decide_eq_true c6; clear c6
       by_cases c7 : (rdOf ByteArray.empty l0 bn).toList = (rdOf ByteArray.empty l1 bn).toList
       ·rw [if_pos c7] at H; have pk : ((rdOf ByteArray.empty l0 bn).toList == (rdOf ByteArray.empty l1 bn).toList) = true := beq_iff_eq.mpr c7; have a6q : ((rdOf ByteArray.empty l0 bn).toList != (rdOf ByteArray.empty l1 bn).toList) = false := bne_eq_false_iff_eq.mpr c7; clear c7; have H' := Aside0.mk H; clear H; have a3n : 0 ≤ (bn : Int) := of_decide_eq_true z_9; have a3o : bn < (l0.length : Int) := of_decide_eq_true z_9; obtain ⟨auv, aic, auw⟩ := Kd.at_string hh.out bn a3n a3o; cases aic; replace a3n := eq_true a3n; replace a3o := eq_true a3o; have a3p : 0 ≤ (bn : Int) := of_decide_eq_true z_9; have a3q : bn < (l1.length : Int) := of_decide_eq_true z_9; obtain ⟨aux, aid, auy⟩ := Kd.at_string el.out bn a3p a3q; cases aid; replace a3p := eq_true a3p; replace a3q := eq_true a3q; go_wp2
        repeat (go_quiet (fail); try go_wp2)
        go_roundg k1
        case measure => have := HK1.out; omega
        case rel => exact ⟨(wrap64 (bn + 1)), z_6, H', ⟨by have := HK1.out; omega⟩, z_2⟩
       ·rw [if_neg c7] at H; have pk : ((rdOf ByteArray.empty l0 bn).toList == (rdOf ByteArray.empty l1 bn).toList) = false := beq_eq_false_iff_ne.mpr c7; have a6q : ((rdOf ByteArray.empty l0 bn).toList != (rdOf ByteArray.empty l1 bn).toList) = true := bne_iff_ne.mpr c7; obtain rfl := Option.some.inj H; have a3n : 0 ≤ (bn : Int) := of_decide_eq_true z_9; have a3o : bn < (l0.length : Int) := of_decide_eq_true z_9; obtain ⟨auv, aic, auw⟩ := Kd.at_string hh.out bn a3n a3o; cases aic; replace a3n := eq_true a3n; replace a3o := eq_true a3o; have a3p : 0 ≤ (bn : Int) := of_decide_eq_true z_9; have a3q : bn < (l1.length : Int) := of_decide_eq_true z_9; obtain ⟨aux, aid, auy⟩ := Kd.at_string el.out bn a3p a3q; cases aid; replace a3p := eq_true a3p; replace a3q := eq_true a3q; go_wp2
        repeat (go_quiet (fail); try go_wp2)
        go_ret; exact ⟨z_1, z_2⟩
      ·rw [if_neg c6] at H; exact absurd H (by simp)
     ·rw [if_neg c5] at H; exact absurd H (by simp)
    ·rw [if_neg c4] at H; have kj := decide_eq_false c4; clear c4; obtain rfl := Option.some.inj H; go_wp2
     repeat (go_quiet (fail); try go_wp2)
     go_ret; exact ⟨z_1, z_2⟩
 ·rw [if_neg c3] at H; have mw : ((l0.length : Int) == (l1.length : Int)) = false := beq_eq_false_iff_ne.mpr c3; have af1 : ((l0.length : Int) != (l1.length : Int)) = true := bne_iff_ne.mpr c3; have amu : (l0.length == l1.length) = false := by first | simpa using c3 | (simp at c3 ⊢; omega)
  obtain rfl := Option.some.inj H
  go_enter Try.func8, Try.ntmps8
  go_wp2
  repeat (go_quiet (fail); try go_wp2)
  go_ret; exact ⟨z_1, z_2⟩
mutual
def impl_sizesOf.l0 : Nat → List Int → List (S27) → Int → Int → Option (List Int)
 | 0, _, _, _, _ => none
 | k + 1, x3, x8, x9, fp => if fp < x9 then (if 0 ≤ fp then (if fp < (x8.length : Int) then ((impl_sizesOf.f k ((rd_T27 x8 fp).f0) ((rd_T27 x8 fp).f1) ((rd_T27 x8 fp).f2)).bind fun a1c => (if x3.length + a1c.length < 17592186044416 then (impl_sizesOf.l0 k (x3 ++ a1c) x8 x9 (wrap64 (fp + 1))) else (none))) else (none)) else (none)) else (if 0 < (x3.length : Int) then (some (x3.set (0 : Int).toNat (x3.length : Int))) else (none))
def impl_sizesOf.f : Nat → ByteArray → List ByteArray → List (S27) → Option (List Int)
 | 0, _, _, _ => none
 | k + 1, ae, ac, ab => impl_sizesOf.l0 k (([0] : List Int)) ab (ab.length : Int) 0
end
theorem impl_sizesOf.mono_l : ∀ k, (∀ y0 y1 y2, LeO (impl_sizesOf.f k y0 y1 y2) (impl_sizesOf.f (k + 1) y0 y1 y2)) ∧ (∀ y0 y1 y2 y3, LeO (impl_sizesOf.l0 k y0 y1 y2 y3) (impl_sizesOf.l0 (k + 1) y0 y1 y2 y3))
 | 0 => ⟨fun _ _ _ r h => by simp [impl_sizesOf.f] at h, fun _ _ _ _ r h => by simp [impl_sizesOf.l0] at h⟩
 | k + 1 => by
  obtain ⟨ih0, ih1⟩ := impl_sizesOf.mono_l k; refine ⟨?_, ?_⟩
  all_goals
   intros
   first | unfold impl_sizesOf.f | unfold impl_sizesOf.l0
   repeat' first
   | (with_reducible exact ih0 _ _ _)
   | (with_reducible exact ih1 _ _ _ _)
   | (with_reducible exact LeO.refl _)
   | (with_reducible exact LeO.none _)
   | (with_reducible refine LeO.ite ?_ ?_)
   | (with_reducible refine LeO.bind ?_ (fun _ => ?_))
   | exact ih0 _ _ _
   | exact ih1 _ _ _ _
   | exact LeO.none _
   | refine LeO.ite ?_ ?_
   | refine LeO.bind ?_ (fun _ => ?_)
theorem impl_sizesOf.mono : ∀ a0 a1 a2 k, LeO (impl_sizesOf.f k a0 a1 a2) (impl_sizesOf.f (k + 1) a0 a1 a2) := by
 intro a0 a1 a2 k; obtain ⟨ih0, ih1⟩ := impl_sizesOf.mono_l k; exact ih0 a0 a1 a2
set_option maxHeartbeats 8000000 in
set_option maxRecDepth 100000 in
theorem impl_sizesOf.calls (k : Nat) : ∀ (ae : ByteArray) (am : Option Addr) (an : Nat) (ac : List ByteArray) (ar : Option Addr) (ao : Nat) (ab : List (S27)) (r : List Int) (w : World) (hr0_1 : Kd.C Kd.string w am ac.length ac) (hc0_1 : ac.length ≤ an) (hr0_2 : Kd.C k27 w ar ab.length ab) (hc0_2 : ab.length ≤ ao) (h : impl_sizesOf.f k ae ac ab = some r),
 Calls Try.prog 31 #[.agg #[.string ae, .slice am ac.length an, .slice ar ab.length ao]] w fun e w' => ∃ v0_ : Value, e = .returned (v0_) ∧ Kd.R (Kd.int .i64) 3 w' w.heap.size (fun _ => True) v0_ r ∧ Below w.heap.size w w' := by
 induction k using Nat.strongRecOn with
 | _ k ih =>
 intro ae am an ac ar ao ab r w hr0_1 hc0_1 hr0_2 hc0_2 h
 cases k with
 | zero => exact absurd h (by simp [impl_sizesOf.f])
 | succ k =>
 simp only [impl_sizesOf.f] at h; have hu27 := Try.underlying27; have du := Aside0.mk hr0_1; have eb := Aside0.mk hc0_1; clear hr0_1 hc0_1; have dk := Aside0.mk hr0_2; have ef := Aside0.mk hc0_2; clear hr0_2 hc0_2; have HB := Aside0.mk (Below.refl w.heap.size w); have H : (impl_sizesOf.l0 k (([0] : List Int)) ab (ab.length : Int) 0) = some r := h; clear h; obtain ⟨amv, aan⟩ : ∃ y_ : List Int, y_ = (([0] : List Int)) := ⟨_, rfl⟩; replace H : (impl_sizesOf.l0 k amv ab (ab.length : Int) 0) = some r := by first | (rw [aan]; with_reducible exact H) | (have H2_ := (Option.bind_some _ _).symm.trans H; rw [aan]; with_reducible exact H2_) | (have H2_ := (Option.bind_some _ _).symm.trans H; with_reducible exact H2_) | with_reducible exact H | (rw [aan]; exact H) | exact H
 have amw := Aside0.mk aan; clear aan; have H' := Aside0.mk H; clear H
 go_enter Try.func31, Try.ntmps31
 go_wp2_with (first | ((with_reducible refine gate_dst (N := 1) rfl ?_); refine box_event ?hg (N := 1) ?hd (cs := #[.string ae, .slice am ac.length an, .slice ar ab.length ao]) (t := 27) ?hr ?_; (case hd => rfl); (case hg => rfl); (case hr => first | (go_simp; done) | (go_simp; rfl)); intro wh hg w2 hbox hb; have km := ak hbox; have b5y := ak ((z_3 HB.out : w.heap.size ≤ wh)); have qi := ak ((z_3 HB.out : w.heap.size ≤ wh)); replace HB := ak (below_step (z_4 HB.out) hb); clear hb hbox hg) | ((with_reducible refine gate_dst (N := 6) rfl ?_); refine Kd.R_lit (Kd.int .i64) _ 3 ?hg (N := 6) ?hd (xs := ([0] : List Int)) (inner := [.int .i64 0]) (ok := fun _ => True) (okp := fun _ => True) ?hr ?hp (fun _ hk => hk) trivial (Below.refl _ _) (Nat.le_refl _) (by simp) ?_; (case hd => rfl); (case hg => rfl); (case hr => first | (go_simp; done) | (go_simp; rfl)); (case hp => exact (Reps.one (show Kd.M (Kd.int .i64) _ _ _ 0 [.int .i64 0] from rfl) (Reps.none _ _))); intro b5z w3 kl hb hg_ hnew_; clear hg_ hnew_; (first | rw [← amw.out] at kl | (simp only [Int.reduceToNat] at kl; rw [← amw.out] at kl)); have auz := ak (Kd.R_lower kl (below_size (z_5 HB.out qi.out))); replace km := bb km hb; replace HB := ak (below_step (z_5 HB.out qi.out) hb); clear hb kl; have xx := bc km.out 0; have xy := bc km.out 1; have xz := bc km.out 2; have a6h := blk_frozen km.out 0; have a3f := blk_frozen km.out 1; have a3g := blk_frozen km.out 2))
 go_loopg [3, 10] k (fun kq v3 v10 w' => ∃ (cb : List Int) (eu : Int), v10 = .int .i64 eu ∧ Aside0 (impl_sizesOf.l0 kq cb ab (ab.length : Int) eu = some r) ∧ Aside0 (kq ≤ k) ∧ Aside0 (Kd.R (Kd.int .i64) 3 w' w.heap.size (fun _ => True) v3 cb) ∧ Aside0 (w'.heap[wh]? = some (.cells #[.string ae, (.slice am ac.length an), (.slice ar ab.length ao)] 27 (0, 0))) ∧ Aside0 (Below w.heap.size w w'))
 case atStart => exact ⟨(amv), (0), z_6, H', ⟨Nat.le_refl _⟩, ⟨z_7 auz.out⟩, ⟨z_8 km.out⟩, ⟨z_5 HB.out qi.out⟩⟩
 case round =>
  clear H'; (try clear xx); (try clear xy); (try clear xz); (try clear a6h); (try clear a3f); (try clear a3g); obtain ⟨cb, eu, rfl, HA, HK1, bm, km, HB⟩ := hrel
  cases gk with
  | zero => exact absurd HA.out (by simp [impl_sizesOf.l0])
  | succ k1 =>
   have H := HA.out; clear HA; simp only [impl_sizesOf.l0] at H
   by_cases c6 : eu < (ab.length : Int)
   ·rw [if_pos c6] at H; have nw := decide_eq_true c6; clear c6
    by_cases c7 : 0 ≤ eu
    ·rw [if_pos c7] at H; have pk := decide_eq_true c7; clear c7
     by_cases c8 : eu < (ab.length : Int)
     ·rw [if_pos c8] at H; have ky := decide_eq_true c8; clear c8; replace H := Option.bind_eq_some_iff.mp H; obtain ⟨a1c, jn, H⟩ := H; have A9 := Aside0.mk jn; clear jn
      by_cases ew : cb.length + a1c.length < 17592186044416
      ·rw [if_pos ew] at H; have av0 := Aside0.mk ew; clear ew; obtain ⟨amx, aao⟩ : ∃ y_ : List Int, y_ = (cb ++ a1c) := ⟨_, rfl⟩; replace H : (impl_sizesOf.l0 k1 amx ab (ab.length : Int) (wrap64 (eu + 1))) = some r := by first | (rw [aao]; with_reducible exact H) | (have H2_ := (Option.bind_some _ _).symm.trans H; rw [aao]; with_reducible exact H2_) | (have H2_ := (Option.bind_some _ _).symm.trans H; with_reducible exact H2_) | with_reducible exact H | (rw [aao]; exact H) | exact H
       have av1 := Aside0.mk aao; clear aao; have H' := Aside0.mk H; clear H; have aie : 0 ≤ (eu : Int) := of_decide_eq_true z_9; have aif : eu < (ab.length : Int) := of_decide_eq_true z_9; obtain ⟨af2, a6r, a6s, aap, aaq, av2, aig, aih, aii, amy, amz, an0, an1⟩ := at_T27 dk.out eu aie aif; cases av2; replace aig := (HB.out.cell (World.block_lt_of_cell? w _ aig)).trans aig; replace aih := (HB.out.cell (World.block_lt_of_cell? w _ aih)).trans aih; replace aii := (HB.out.cell (World.block_lt_of_cell? w _ aii)).trans aii; have av3 := Aside0.mk amz; have av4 := Aside0.mk amy; clear amz amy; have av5 := Aside0.mk an1; have av6 := Aside0.mk an0; clear an1 an0; replace aie := eq_true aie; replace aif := eq_true aif; go_wp2_with (first | ((with_reducible refine gate_dst (N := 5) rfl ?_); refine box_event ?hg (N := 5) ?hd (cs := #[.string (⟨#[]⟩ : ByteArray), .slice none 0 0, .slice none 0 0]) (t := 27) ?hr ?_; (case hd => rfl); (case hg => rfl); (case hr => first | (go_simp; done) | (go_simp; rfl)); intro so hg vu hbox hb; replace bm := rb bm hb; have ro := ak hbox; have b6a := ak ((z_10 HB.out qi.out : w.heap.size ≤ so)); have a3r := ak ((z_10 HB.out qi.out : w.heap.size ≤ so)); replace HB := ak (below_step (z_5 HB.out qi.out) hb); have af3 := ak ((by rw [hg]; exact Nat.ne_of_lt (blk_lt (g := wh) (o := .cells #[.string ae, .slice am ac.length an, .slice (some af2) ab.length ao] 27 (0, 0)) (z_8 km.out)) : wh ≠ so)); have av7 := ak ((by rw [hg]; exact Nat.ne_of_gt (blk_lt (g := wh) (o := .cells #[.string ae, .slice am ac.length an, .slice (some af2) ab.length ao] 27 (0, 0)) (z_8 km.out)) : so ≠ wh)); replace km := bb km hb; clear hb hbox hg; have an2 := av7.out; have an3 := af3.out; have sp := bc ro.out 0; have sq := bc ro.out 1; have sr := bc ro.out 2; have su := blk_frozen ro.out 0; have sv := blk_frozen ro.out 1; have sw := blk_frozen ro.out 2) | ((with_reducible refine gate_callee (f := 31) rfl ?_); refine gl_ 16 Try.func31 #[.agg #[.string ((rd_T27 ab eu).f0), .slice a6r ((rd_T27 ab eu).f1).length a6s, .slice aap ((rd_T27 ab eu).f2).length aaq]] ?_; refine (ih k1 (by have := HK1.out; omega) ((rd_T27 ab eu).f0) _ _ ((rd_T27 ab eu).f1) _ _ ((rd_T27 ab eu).f2) a1c _ (Kd.C_below av3.out (z_11 HB.out qi.out a3r.out)) av4.out (Kd.C_below av5.out (z_11 HB.out qi.out a3r.out)) av6.out A9.out).mono ?_; rintro e w14 ⟨b6b, rfl, aq, hb⟩; refine ⟨_, rfl, ?_⟩; have aar := ak (Kd.R_lower (Kd.R_new' aq (Kd.R_lt (z_32 bm.out ro.out))) (below_size (z_11 HB.out qi.out a3r.out))); replace bm := ak (Kd.R_elder' (z_32 bm.out ro.out) (Kd.R_base aq) hb); replace km := ak (blk_below (g := wh) (o := .cells #[.string ae, .slice am ac.length an, .slice (some af2) ab.length ao] 27 (0, 0)) (z_13 af3.out km.out) hb); replace ro := ak (blk_below (g := so) (o := .cells #[.string ((rd_T27 ab eu).f0), .slice a6r ((rd_T27 ab eu).f1).length a6s, .slice aap ((rd_T27 ab eu).f2).length aaq] 27 (0, 0)) (by (with_reducible repeat (first | refine blk_drewN ?_ _ | refine blk_drew ?_ | refine blk_alloc ?_ _)); refine blk_put (cs := #[.string ((rd_T27 ab eu).f0), .slice a6r ((rd_T27 ab eu).f1).length a6s, .slice none 0 0]) ?_ 2 _ rfl; (with_reducible repeat (first | refine blk_drewN ?_ _ | refine blk_drew ?_ | refine blk_alloc ?_ _)); refine blk_put (cs := #[.string ((rd_T27 ab eu).f0), .slice none 0 0, .slice none 0 0]) ?_ 1 _ rfl; (with_reducible repeat (first | refine blk_drewN ?_ _ | refine blk_drew ?_ | refine blk_alloc ?_ _)); refine blk_put (cs := #[.string (⟨#[]⟩ : ByteArray), .slice none 0 0, .slice none 0 0]) ?_ 0 _ rfl; (with_reducible repeat (first | refine blk_drewN ?_ _ | refine blk_drew ?_ | refine blk_alloc ?_ _)); exact ro.out) hb); replace HB := ak (below_step (z_11 HB.out qi.out a3r.out) hb); (try clear hb); (try clear hb2); (try clear hk); (try clear hi); (try clear aq); obtain ⟨sm, rk, a3b⟩ := Kd.R_slice aar.out; subst a3b) | ((with_reducible refine gate_builtin (b := .append) (xs := #[.tmp 14, .tmp 16]) rfl ?_); at_builtin; refine Kd.R_append_rows (Kd.int .i64) (w0 := w) w.heap.size rfl (.tmp 14) (.tmp 16) 28 3 (.int .i64 0) 8 rfl Try.underlying28 info3 rfl (by decide) (by omega) u3 cb a1c _ _ _ (fun k_ => some k_ ≠ (.slice sm a1c.length rk : Value).ownBlock) (fun _ => False) rfl rfl ?aO ?aR (fun _ _ h => h) (fun _ h => h.elim) ?aF ?aB ?aS ?aL ?_; (case aR => exact z_14 aar.out); (case aB => exact z_11 HB.out qi.out a3r.out); (case aF => exact (fun k_ hk => Kd.fresh' (Kd.R_lt (z_7 aar.out)) k_ hk)); (case aO => exact z_15 bm.out); (case aS => exact (below_size (z_11 HB.out qi.out a3r.out))); (case aL => have := av0.out; omega); intro b6c vr ho hb hg hat; rw [← av1.out] at ho; replace km := ak (blk_grown (g := wh) (o := .cells #[.string ae, .slice am ac.length an, .slice (some af2) ab.length ao] 27 (0, 0)) (z_8 km.out) hg (Kd.R_ne bm.out km.out (by decide))); replace ro := ak (blk_grown (g := so) (o := .cells #[.string ((rd_T27 ab eu).f0), .slice a6r ((rd_T27 ab eu).f1).length a6s, .slice aap ((rd_T27 ab eu).f2).length aaq] 27 (0, 0)) (z_8 ro.out) hg (Kd.R_ne bm.out ro.out (by decide))); replace aar := ak (Kd.R_after (ok := (fun _ => True)) (z_7 aar.out) hg hat); replace HB := ak hb; have av8 := ak ho; clear bm; clear ho hb hg hat))
       go_roundg k1
       case measure => have := HK1.out; omega
       case rel => exact ⟨(amx), (wrap64 (eu + 1)), z_6, H', ⟨by have := HK1.out; omega⟩, ⟨z_16 av8.out⟩, ⟨z_8 km.out⟩, ⟨z_11 HB.out qi.out a3r.out⟩⟩
      ·rw [if_neg ew] at H; exact absurd H (by simp)
     ·rw [if_neg c8] at H; exact absurd H (by simp)
    ·rw [if_neg c7] at H; exact absurd H (by simp)
   ·rw [if_neg c6] at H; have nw := decide_eq_false c6; clear c6
    by_cases iw : 0 < (cb.length : Int)
    ·rw [if_pos iw] at H; have aij := decide_eq_true iw; have b6d : decide (0 < cb.length) = true := decide_eq_true (by omega); clear iw; obtain ⟨an4, aas⟩ : ∃ y_ : List Int, y_ = (cb.set (0 : Int).toNat (cb.length : Int)) := ⟨_, rfl⟩; replace H : (some an4) = some r := by first | (rw [aas]; with_reducible exact H) | (have H2_ := (Option.bind_some _ _).symm.trans H; rw [aas]; with_reducible exact H2_) | (have H2_ := (Option.bind_some _ _).symm.trans H; with_reducible exact H2_) | with_reducible exact H | (rw [aas]; exact H) | exact H
     have av9 := Aside0.mk aas; clear aas; obtain rfl := Option.some.inj H; obtain ⟨a6g, a3c, a0w⟩ := Kd.R_slice bm.out; subst a0w; have p18 : 0 ≤ (0 : Int) := (by omega); have q18 : (0 : Int) < ((cb.length : Int) : Int) := of_decide_eq_true z_9; have qi18 : (0 < cb.length) = True := eq_true (by omega); obtain ⟨go18, b6e, an5, an6, gl18, cl18, HG18⟩ := Kd.R_form bm.out (by omega); (first | cases an5 | (injection an5 with ea_ en_ ec_; (first | subst ea_ | (injection ea_ with ea_; subst ea_)); subst ec_; clear en_)); have GB18 := Aside0.mk an6; have GG18 := Aside0.mk HG18; clear an6 gl18 HG18; obtain ⟨an7, hf18_0⟩ := Kd.R_celln 0 bm.out (0 : Int) p18 q18; (try rw [show ((0 : Int)).toNat = 0 from rfl] at an7); (try simp only [Nat.reduceMul, Nat.zero_mul, Nat.zero_add, Nat.reduceAdd] at an7); (try rw [show ((0 : Int)).toNat = 0 from rfl] at hf18_0); (try simp only [Nat.reduceMul, Nat.zero_mul, Nat.zero_add, Nat.reduceAdd] at hf18_0)
     replace p18 := eq_true p18; replace q18 := eq_true q18; have HP20 := Kd.R_putg bm.out (0 : Int) (cb.length : Int); go_wp2_with (first | ((with_reducible refine gate_store (t := 3) (p := 22) rfl ?_); refine store_event (t := 3) (p := 22) (v := ?vo_w21) (w1 := (wr.setCell ⟨go18, (0 : Int).toNat, none⟩ (.int .i64 (cb.length : Int)))) ?hg ?ho ?hn ?hr ?_; (case ho => rfl); (case hg => rfl); (case hn => rfl); (case hr => first | (go_simp; done) | (go_simp; rfl)); intro w21 hw; have hg : wr.grownBy w21 (some go18) := (by rw [hw]; exact HP20.2); have hp_ : Kd.R (Kd.int .i64) 3 w21 w.heap.size (fun _ => True) (.slice (some ⟨go18, 0, none⟩) cb.length a3c) an4 := (by rw [hw, av9.out]; exact HP20.1); clear HP20; replace km := ak (blk_grown (g := wh) (o := .cells #[.string ae, .slice am ac.length an, .slice ar ab.length ao] 27 (0, 0)) (z_8 km.out) hg (Kd.R_ne bm.out km.out (by decide))); replace bm := ak hp_; replace HB := ak ((by rw [hw]; exact below_set (HB.out) GB18.out : Below w.heap.size w w21)); clear hg hw hp_))
     go_ret; exact ⟨_, z_17, z_7 bm.out, z_5 HB.out qi.out⟩
    ·rw [if_neg iw] at H; exact absurd H (by simp)
end Go.Proofs.Ytdphpmejjlgpnaa.PFnTreesBent

