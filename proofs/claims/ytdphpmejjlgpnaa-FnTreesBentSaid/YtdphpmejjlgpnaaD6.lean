import Derived.Test.YtdphpmejjlgpnaaD0
import Derived.Test.YtdphpmejjlgpnaaD2
import Derived.Test.YtdphpmejjlgpnaaD4
import Derived.Test.YtdphpmejjlgpnaaD5
import Derived.Test.YtdphpmejjlgpnaaDZ
set_option linter.unusedVariables false
set_option linter.unusedSimpArgs false
set_option linter.unusedSectionVars false
namespace Go.Proofs.Ytdphpmejjlgpnaa.PFnTreesBent
open Go.RowKit Go.Proofs.YtdphpmejjlgpnaaW.PrintWords Go.Proofs.YtdphpmejjlgpnaaW.PrintLast Go.Proofs.YtdphpmejjlgpnaaW.PrintMore Go.Proofs.Ytdphpmejjlgpnaa.Short
attribute [local go_sem] max2_int min2_int max_two min_two max_three min_three max_four min_four
def impl_Above.j0 : Nat → List Int → Int → Int → Bool → Option (Bool)
 | 0, _, _, _, _ => none
 | k + 1, x8, x9, fp, x26 => if x26 = true then (some false) else (if 0 ≤ x9 then (if x9 < (x8.length : Int) then ((impl_within.f fp x9 (wrap64 ((wrap64 (x9 + (rd x8 x9))) - 1))).bind fun aik => (if aik = true then (some true) else (if 0 ≤ fp then (if fp < (x8.length : Int) then ((impl_within.f x9 fp (wrap64 ((wrap64 (fp + (rd x8 fp))) - 1))).bind fun ail => (some ail)) else (none)) else (none)))) else (none)) else (none))
def impl_Above.f (k : Nat) (ae : ByteArray) (ac : List ByteArray) (ab : List (S27)) (a1 : ByteArray) (a2 : ByteArray) : Option (Bool) := (impl_Segs.f k ae ac ab).bind fun ug => ((impl_sizesOf.f k ae ac ab).bind fun mo => ((impl_placeIn.f k ug a1).bind fun gt => ((impl_placeIn.f k ug a2).bind fun kn => (if gt < 0 then (impl_Above.j0 k mo gt kn true) else (impl_Above.j0 k mo gt kn (decide (kn < 0)))))))
theorem impl_Above.mono_l : ∀ k, (∀ y0 y1 y2 y3, LeO (impl_Above.j0 k y0 y1 y2 y3) (impl_Above.j0 (k + 1) y0 y1 y2 y3))
 | 0 => fun _ _ _ _ r h => by simp [impl_Above.j0] at h
 | k + 1 => by
  have ih0 := impl_Above.mono_l k
  ·intro y0 y1 y2 y3; unfold impl_Above.j0
   repeat' first
   | (with_reducible exact ih0 _ _ _ _)
   | (with_reducible exact impl_Segs.mono _ _ _ _)
   | (with_reducible exact impl_placeIn.mono _ _ _)
   | (with_reducible exact impl_sizesOf.mono _ _ _ _)
   | (with_reducible exact LeO.refl _)
   | (with_reducible exact LeO.none _)
   | (with_reducible refine LeO.ite ?_ ?_)
   | (with_reducible refine LeO.bind ?_ (fun _ => ?_))
   | exact ih0 _ _ _ _
   | exact impl_Segs.mono _ _ _ _
   | exact impl_placeIn.mono _ _ _
   | exact impl_sizesOf.mono _ _ _ _
   | exact LeO.none _
   | refine LeO.ite ?_ ?_
   | refine LeO.bind ?_ (fun _ => ?_)
theorem impl_Above.mono : ∀ a0 a1 a2 a3 a4 k, LeO (impl_Above.f k a0 a1 a2 a3 a4) (impl_Above.f (k + 1) a0 a1 a2 a3 a4) := by
 intro a0 a1 a2 a3 a4 k; have ih0 := impl_Above.mono_l k; unfold impl_Above.f
 repeat' first
  | (with_reducible exact ih0 _ _ _ _)
  | (with_reducible exact impl_Segs.mono _ _ _ _)
  | (with_reducible exact impl_placeIn.mono _ _ _)
  | (with_reducible exact impl_sizesOf.mono _ _ _ _)
  | (with_reducible exact LeO.refl _)
  | (with_reducible exact LeO.none _)
  | (with_reducible refine LeO.ite ?_ ?_)
  | (with_reducible refine LeO.bind ?_ (fun _ => ?_))
  | exact ih0 _ _ _ _
  | exact impl_Segs.mono _ _ _ _
  | exact impl_placeIn.mono _ _ _
  | exact impl_sizesOf.mono _ _ _ _
  | exact LeO.none _
  | refine LeO.ite ?_ ?_
  | refine LeO.bind ?_ (fun _ => ?_)
set_option maxHeartbeats 8000000 in
set_option maxRecDepth 100000 in
theorem impl_Above.calls (k : Nat) (ae : ByteArray) (am : Option Addr) (an : Nat) (ac : List ByteArray) (ar : Option Addr) (ao : Nat) (ab : List (S27)) (a1 : ByteArray) (a2 : ByteArray) (r : Bool) (w : World) (hr0_1 : Kd.C Kd.string w am ac.length ac) (hc0_1 : ac.length ≤ an) (hr0_2 : Kd.C k27 w ar ab.length ab) (hc0_2 : ab.length ≤ ao) (h : impl_Above.f k ae ac ab a1 a2 = some r) :
 Calls Try.prog 11 #[.agg #[.string ae, .slice am ac.length an, .slice ar ab.length ao], .string a1, .string a2] w fun e w' => e = .returned (.bool r) ∧ Below w.heap.size w w' := by
 have hu27 := Try.underlying27; have du := Aside0.mk hr0_1; have eb := Aside0.mk hc0_1; clear hr0_1 hc0_1; have dk := Aside0.mk hr0_2; have ef := Aside0.mk hc0_2; clear hr0_2 hc0_2; have HB := Aside0.mk (Below.refl w.heap.size w); have H : ((impl_Segs.f k ae ac ab).bind fun ug => ((impl_sizesOf.f k ae ac ab).bind fun mo => ((impl_placeIn.f k ug a1).bind fun gt => ((impl_placeIn.f k ug a2).bind fun kn => (if gt < 0 then (impl_Above.j0 k mo gt kn true) else (impl_Above.j0 k mo gt kn (decide (kn < 0)))))))) = some r := h; clear h; replace H := Option.bind_eq_some_iff.mp H; obtain ⟨ug, fe, H⟩ := H; have A4 := Aside0.mk fe; clear fe; replace H := Option.bind_eq_some_iff.mp H; obtain ⟨mo, fj, H⟩ := H; have A5 := Aside0.mk fj; clear fj; replace H := Option.bind_eq_some_iff.mp H; obtain ⟨gt, ii, H⟩ := H; have A6 := Aside0.mk ii; clear ii; replace H := Option.bind_eq_some_iff.mp H; obtain ⟨kn, kk, H⟩ := H
 have A7 := Aside0.mk kk; clear kk; have HC8 := Aside0.mk H; clear H
 go_enter Try.func11, Try.ntmps11
 try go_wp2_with (first | ((with_reducible refine gate_dst (N := 3) rfl ?_); refine box_event ?hg (N := 3) ?hd (cs := #[.string ae, .slice am ac.length an, .slice ar ab.length ao]) (t := 27) ?hr ?_; (case hd => rfl); (case hg => rfl); (case hr => first | (go_simp; done) | (go_simp; rfl)); intro a6t hg w9 hbox hb; have mq := ak hbox; have b6f := ak ((z_3 HB.out : w.heap.size ≤ a6t)); have yf := ak ((z_3 HB.out : w.heap.size ≤ a6t)); replace HB := ak (below_step (z_4 HB.out) hb); clear hb hbox hg))
 replace mq := bd mq; replace HB := ak (below_drew1 HB.out); refine st_ 6 (fun w' => w'.cell? ⟨a6t, 0, none⟩ = some (.string ae) ∧ w'.cell? ⟨a6t, 1, none⟩ = some (.slice am ac.length an) ∧ w'.cell? ⟨a6t, 2, none⟩ = some (.slice ar ab.length ao)) [] ⟨bc mq.out 0, bc mq.out 1, bc mq.out 2⟩ (fun hHeld => ?_); generalize w9.drew = qf at mq HB hHeld ⊢; refine go_ ?_ [1000, 1002] ?_; refine on_ 1 12 (fun K hK => ?_); refine gs_ Try.func10 #[.agg #[.string ae, .slice am ac.length an, .slice ar ab.length ao]] ?_; refine (impl_Segs.calls k ae _ _ ac _ _ ab ug _ (z_25 du.out HB.out) eb.out (z_25 dk.out HB.out) ef.out A4.out).mono ?_; rintro e vu ⟨b6g, rfl, aq, hb⟩; refine ⟨_, rfl, ?_⟩; have a3s := ak (Kd.R_lower aq (below_size (z_5 HB.out yf.out))); replace mq := bb mq hb; replace HB := ak (below_step (z_5 HB.out yf.out) hb); (try clear hb); (try clear hb2); (try clear hk); (try clear hi); (try clear aq)
 refine hK.out _ _ ⟨bc mq.out 0, bc mq.out 1, bc mq.out 2⟩ (fun hHeld => ?_); clear hK K; refine nm_ ?_; refine on_ 3 14 (fun K hK => ?_); refine gs_ Try.func31 #[.agg #[.string ae, .slice am ac.length an, .slice ar ab.length ao]] ?_; refine (impl_sizesOf.calls k ae _ _ ac _ _ ab mo _ (z_25 du.out HB.out) eb.out (z_25 dk.out HB.out) ef.out A5.out).mono ?_; rintro e xi ⟨ava, rfl, aq, hb⟩; refine ⟨_, rfl, ?_⟩; replace a3s := rb a3s hb; have an8 := ak (Kd.R_lower aq (below_size (z_5 HB.out yf.out))); replace mq := bb mq hb; replace HB := ak (below_step (z_5 HB.out yf.out) hb); (try clear hb); (try clear hb2); (try clear hk); (try clear hi); (try clear aq); refine hK.out _ _ ⟨bc mq.out 0, bc mq.out 1, bc mq.out 2⟩ (fun hHeld => ?_); clear hK K; refine nm_ ?_; refine go_ ?_ [4, 5] ?_; refine done_ (by kernel_rfl) ?_; obtain ⟨bl, bk, rp⟩ := Kd.R_slice a3s.out; subst rp
 go_upto_region 3 with (first | ((with_reducible refine gate_callee (f := 32) rfl ?_); refine gl_ 17 Try.func32 #[.slice bl ug.length bk, .string a1] ?_; refine (impl_placeIn.calls k _ _ ug a1 gt _ (z_18 a3s.out) ((Kd.R_reads' a3s.out).2.1) A6.out).mono ?_; rintro e w' ⟨rfl, ⟨nd, rfl⟩⟩; refine ⟨_, rfl, ?_⟩) | ((with_reducible refine gate_callee (f := 32) rfl ?_); refine gl_ 20 Try.func32 #[.slice bl ug.length bk, .string a2] ?_; refine (impl_placeIn.calls k _ _ ug a2 kn _ (z_18 a3s.out) ((Kd.R_reads' a3s.out).2.1) A7.out).mono ?_; rintro e w' ⟨rfl, ⟨nd, rfl⟩⟩; refine ⟨_, rfl, ?_⟩))
 (try simp only [Act.put, List.setIfInBounds_toArray, List.set_cons_zero, List.set_cons_succ])
 go_cut [26] (fun v26 wc => ∃ (kq : Nat) (af4 : Bool), v26 = .bool af4 ∧ Aside0 (impl_Above.j0 kq mo gt kn af4 = some r) ∧ Aside0 (kq ≤ k) ∧ Aside0 (Kd.R (Kd.int .i64) 3 wc w.heap.size (fun _ => True) ava mo) ∧ Aside0 (wc.heap[a6t]? = some (.cells #[.string ae, (.slice am ac.length an), (.slice ar ab.length ao)] 27 (0, 0))) ∧ Aside0 (Below w.heap.size w wc))
 case first =>
  have H := HC8.out; clear HC8
  by_cases la : gt < 0
  ·rw [if_pos la] at H; have a0y := decide_eq_true la; clear la; (first | rw [a0y] | (simp only [i64_w, i32_w]; rw [a0y]) | skip); have H' := Aside0.mk H; clear H; go_wp2
   go_meet
   case rel => exact ⟨_, (true), z_6, H', ⟨z_19⟩, ⟨z_7 an8.out⟩, ⟨z_8 mq.out⟩, ⟨z_5 HB.out yf.out⟩⟩
  ·rw [if_neg la] at H; have a0y := decide_eq_false la; clear la; (first | rw [a0y] | (simp only [i64_w, i32_w]; rw [a0y]) | skip); have H' := Aside0.mk H; clear H; go_wp2
   go_meet
   case rel => exact ⟨_, (decide (kn < 0)), z_6, H', ⟨z_19⟩, ⟨z_7 an8.out⟩, ⟨z_8 mq.out⟩, ⟨z_5 HB.out yf.out⟩⟩
 case rest =>
  clear HC8; (try clear la); (try clear a0y); obtain ⟨kq, af4, rfl, HA, HJ7, aat, mq, HB⟩ := hcut
  cases kq with
  | zero => exact absurd HA.out (by simp [impl_Above.j0])
  | succ kj7 =>
   have H := HA.out; clear HA; simp only [impl_Above.j0] at H
   by_cases lb : af4 = true
   ·subst lb; rw [if_pos rfl] at H; obtain rfl := Option.some.inj H; go_wp2; go_ret; exact ⟨z_17, z_5 HB.out yf.out⟩
   ·replace lb := Bool.eq_false_iff.mpr lb; subst lb; rw [if_neg (show ¬ (false = true) by decide)] at H
    by_cases yg : 0 ≤ gt
    ·rw [if_pos yg] at H; have b6h := decide_eq_true yg; clear yg
     by_cases iw : gt < (mo.length : Int)
     ·rw [if_pos iw] at H; have aij := decide_eq_true iw; clear iw; replace H := Option.bind_eq_some_iff.mp H; obtain ⟨aik, an9, H⟩ := H; have A18 := Aside0.mk an9; clear an9
      by_cases sk : aik = true
      ·subst sk; rw [if_pos rfl] at H; obtain rfl := Option.some.inj H; obtain ⟨aim, ain, af5⟩ := Kd.R_slice aat.out; subst af5; have a3t : 0 ≤ (gt : Int) := of_decide_eq_true z_9; have a3u : gt < (mo.length : Int) := of_decide_eq_true z_9; obtain ⟨ana, aio, avb⟩ := Kd.at_int (Kd.R_reads' aat.out).2.2 gt a3t a3u; cases aio; replace a3t := eq_true a3t; replace a3u := eq_true a3u; go_wp2_with (first | ((with_reducible refine gate_callee (f := 29) rfl ?_); refine gl_ 36 Try.func29 #[.int .i64 kn, .int .i64 gt, .int .i64 (wrap64 ((wrap64 (gt + (rd mo gt))) - 1))] ?_; (with_reducible refine (impl_within.calls kn gt (wrap64 ((wrap64 (gt + (rd mo gt))) - 1)) true _ A18.out).mono ?_); rintro e w' ⟨rfl, ⟨nd, rfl⟩⟩; refine ⟨_, rfl, ?_⟩)); go_ret; exact ⟨z_17, z_5 HB.out yf.out⟩
      ·replace sk := Bool.eq_false_iff.mpr sk; subst sk; rw [if_neg (show ¬ (false = true) by decide)] at H
       by_cases ib : 0 ≤ kn
       ·rw [if_pos ib] at H; have a6c := decide_eq_true ib; clear ib
        by_cases mc : kn < (mo.length : Int)
        ·rw [if_pos mc] at H; have a6n := decide_eq_true mc; clear mc; replace H := Option.bind_eq_some_iff.mp H; obtain ⟨ail, aau, H⟩ := H; have A23 := Aside0.mk aau; clear aau; obtain rfl := Option.some.inj H; obtain ⟨ck, cl, a1d⟩ := Kd.R_slice aat.out; subst a1d; have a3t : 0 ≤ (gt : Int) := of_decide_eq_true z_9; have a3u : gt < (mo.length : Int) := of_decide_eq_true z_9; obtain ⟨ana, aio, avb⟩ := Kd.at_int (Kd.R_reads' aat.out).2.2 gt a3t a3u; cases aio; replace a3t := eq_true a3t; replace a3u := eq_true a3u; go_wp2_with (first | ((with_reducible refine gate_callee (f := 29) rfl ?_); refine gl_ 36 Try.func29 #[.int .i64 kn, .int .i64 gt, .int .i64 (wrap64 ((wrap64 (gt + (rd mo gt))) - 1))] ?_; (with_reducible refine (impl_within.calls kn gt (wrap64 ((wrap64 (gt + (rd mo gt))) - 1)) false _ A18.out).mono ?_); rintro e w' ⟨rfl, ⟨nd, rfl⟩⟩; (try clear A18); refine ⟨_, rfl, ?_⟩; have aip : 0 ≤ (kn : Int) := of_decide_eq_true z_9; have aiq : kn < (mo.length : Int) := of_decide_eq_true z_9; obtain ⟨avc, avd, b6i⟩ := Kd.at_int (Kd.R_reads' aat.out).2.2 kn aip aiq; obtain rfl : ana = avc := (by injection avd); replace aip := eq_true aip; replace aiq := eq_true aiq) | (go_at_call 29; (with_reducible refine (impl_within.calls gt kn (wrap64 ((wrap64 (kn + (rd mo kn))) - 1)) ail _ A23.out).mono ?_); rintro e w' ⟨rfl, ⟨nd, rfl⟩⟩))
         go_ret; exact ⟨z_17, z_5 HB.out yf.out⟩
        ·rw [if_neg mc] at H; exact absurd H (by simp)
       ·rw [if_neg ib] at H; exact absurd H (by simp)
     ·rw [if_neg iw] at H; exact absurd H (by simp)
    ·rw [if_neg yg] at H; exact absurd H (by simp)
mutual
def impl_highest.l0 : Nat → List ByteArray → List Int → Int → List (S27) → Int → Int → ByteArray → List ByteArray → List (S27) → Option (Int)
 | 0, _, _, _, _, _, _, _, _, _ => none
 | k + 1, x1, x2, x7, kh, gi, mm, anb, anc, ane => if mm < gi then (if 0 ≤ mm then (if mm < (kh.length : Int) then ((impl_highest.f k ((rd_T27 kh mm).f0) ((rd_T27 kh mm).f1) ((rd_T27 kh mm).f2) x1 x2).bind fun a6u => (impl_highest.l0 k x1 x2 (mx x7 a6u) kh gi (wrap64 (mm + 1)) anb anc ane)) else (none)) else (none)) else ((impl_WordsIn.f k anb anc ane x1 x2).bind fun air => (some (wrap64 (air + x7))))
def impl_highest.f : Nat → ByteArray → List ByteArray → List (S27) → List ByteArray → List Int → Option (Int)
 | 0, _, _, _, _, _ => none
 | k + 1, ae, ac, ab, l1, l2 => impl_highest.l0 k l1 l2 0 ab (ab.length : Int) 0 ae ac ab
end
theorem impl_highest.mono_l : ∀ k, (∀ y0 y1 y2 y3 y4, LeO (impl_highest.f k y0 y1 y2 y3 y4) (impl_highest.f (k + 1) y0 y1 y2 y3 y4)) ∧ (∀ y0 y1 y2 y3 y4 y5 y6 y7 y8, LeO (impl_highest.l0 k y0 y1 y2 y3 y4 y5 y6 y7 y8) (impl_highest.l0 (k + 1) y0 y1 y2 y3 y4 y5 y6 y7 y8))
 | 0 => ⟨fun _ _ _ _ _ r h => by simp [impl_highest.f] at h, fun _ _ _ _ _ _ _ _ _ r h => by simp [impl_highest.l0] at h⟩
 | k + 1 => by
  obtain ⟨ih0, ih1⟩ := impl_highest.mono_l k; refine ⟨?_, ?_⟩
  all_goals
   intros
   first | unfold impl_highest.f | unfold impl_highest.l0
   repeat' first
   | (with_reducible exact ih0 _ _ _ _ _)
   | (with_reducible exact ih1 _ _ _ _ _ _ _ _ _)
   | (with_reducible exact impl_WordsIn.mono _ _ _ _ _ _)
   | (with_reducible exact LeO.refl _)
   | (with_reducible exact LeO.none _)
   | (with_reducible refine LeO.ite ?_ ?_)
   | (with_reducible refine LeO.bind ?_ (fun _ => ?_))
   | exact ih0 _ _ _ _ _
   | exact ih1 _ _ _ _ _ _ _ _ _
   | exact impl_WordsIn.mono _ _ _ _ _ _
   | exact LeO.none _
   | refine LeO.ite ?_ ?_
   | refine LeO.bind ?_ (fun _ => ?_)
theorem impl_highest.mono : ∀ a0 a1 a2 a3 a4 k, LeO (impl_highest.f k a0 a1 a2 a3 a4) (impl_highest.f (k + 1) a0 a1 a2 a3 a4) := by
 intro a0 a1 a2 a3 a4 k; obtain ⟨ih0, ih1⟩ := impl_highest.mono_l k; exact ih0 a0 a1 a2 a3 a4
set_option maxHeartbeats 8000000 in
set_option maxRecDepth 100000 in
theorem impl_highest.calls (k : Nat) : ∀ (ae : ByteArray) (am : Option Addr) (an : Nat) (ac : List ByteArray) (ar : Option Addr) (ao : Nat) (ab : List (S27)) (A1 : Option Addr) (c1 : Nat) (l1 : List ByteArray) (A2 : Option Addr) (c2 : Nat) (l2 : List Int) (r : Int) (w : World) (hr0_1 : Kd.C Kd.string w am ac.length ac) (hc0_1 : ac.length ≤ an) (hr0_2 : Kd.C k27 w ar ab.length ab) (hc0_2 : ab.length ≤ ao) (hr1 : Kd.C Kd.string w A1 l1.length l1) (hc1 : l1.length ≤ c1) (hr2 : Kd.C (Kd.int .i64) w A2 l2.length l2) (hc2 : l2.length ≤ c2) (h : impl_highest.f k ae ac ab l1 l2 = some r),
 Calls Try.prog 33 #[.agg #[.string ae, .slice am ac.length an, .slice ar ab.length ao], .slice A1 l1.length c1, .slice A2 l2.length c2] w fun e w' => e = .returned (.int .i64 r) ∧ Below w.heap.size w w' := by
 induction k using Nat.strongRecOn with
 | _ k ih =>
 intro ae am an ac ar ao ab A1 c1 l1 A2 c2 l2 r w hr0_1 hc0_1 hr0_2 hc0_2 hr1 hc1 hr2 hc2 h
 cases k with
 | zero => exact absurd h (by simp [impl_highest.f])
 | succ k =>
 simp only [impl_highest.f] at h; have hu27 := Try.underlying27; have du := Aside0.mk hr0_1; have eb := Aside0.mk hc0_1; clear hr0_1 hc0_1; have dk := Aside0.mk hr0_2; have ef := Aside0.mk hc0_2; clear hr0_2 hc0_2; have el := Aside0.mk hr1; have ex := Aside0.mk hc1; clear hr1 hc1; have ff := Aside0.mk hr2; have gb := Aside0.mk hc2; clear hr2 hc2; have HB := Aside0.mk (Below.refl w.heap.size w); have H : (impl_highest.l0 k l1 l2 0 ab (ab.length : Int) 0 ae ac ab) = some r := h; clear h; have H' := Aside0.mk H; clear H
 go_enter Try.func33, Try.ntmps33
 go_wp2_with (first | ((with_reducible refine gate_dst (N := 3) rfl ?_); refine box_event ?hg (N := 3) ?hd (cs := #[.string ae, .slice am ac.length an, .slice ar ab.length ao]) (t := 27) ?hr ?_; (case hd => rfl); (case hg => rfl); (case hr => first | (go_simp; done) | (go_simp; rfl)); intro a1e hg w4 hbox hb; have ne := ak hbox; have b6j := ak ((z_3 HB.out : w.heap.size ≤ a1e)); have sx := ak ((z_3 HB.out : w.heap.size ≤ a1e)); replace HB := ak (below_step (z_4 HB.out) hb); clear hb hbox hg; have xx := bc ne.out 0; have xy := bc ne.out 1; have xz := bc ne.out 2; have a6h := blk_frozen ne.out 0; have a3f := blk_frozen ne.out 1; have a3g := blk_frozen ne.out 2))
 go_loopg [7, 13] k (fun kq v7 v13 w' => ∃ (fx : Int) (ko : Int), v7 = .int .i64 fx ∧ v13 = .int .i64 ko ∧ Aside0 (impl_highest.l0 kq l1 l2 fx ab (ab.length : Int) ko ae ac ab = some r) ∧ Aside0 (kq ≤ k) ∧ Aside0 (w'.heap[a1e]? = some (.cells #[.string ae, (.slice am ac.length an), (.slice ar ab.length ao)] 27 (0, 0))) ∧ Aside0 (Below w.heap.size w w'))
 case atStart => exact ⟨(0), (0), z_6, z_6, H', ⟨Nat.le_refl _⟩, ⟨z_8 ne.out⟩, ⟨z_5 HB.out sx.out⟩⟩
 case round =>
  clear H'; (try clear c1); (try clear c2); (try clear xx); (try clear xy); (try clear xz); (try clear a6h); (try clear a3f); (try clear a3g); obtain ⟨fx, ko, rfl, rfl, HA, HK1, ne, HB⟩ := hrel
  cases gk with
  | zero => exact absurd HA.out (by simp [impl_highest.l0])
  | succ k1 =>
   have H := HA.out; clear HA; simp only [impl_highest.l0] at H
   by_cases c6 : ko < (ab.length : Int)
   ·rw [if_pos c6] at H; have nw := decide_eq_true c6; clear c6
    by_cases c7 : 0 ≤ ko
    ·rw [if_pos c7] at H; have pk := decide_eq_true c7; clear c7
     by_cases c8 : ko < (ab.length : Int)
     ·rw [if_pos c8] at H; have ky := decide_eq_true c8; clear c8; replace H := Option.bind_eq_some_iff.mp H; obtain ⟨a6u, jn, H⟩ := H; have A9 := Aside0.mk jn; clear jn; obtain ⟨ji10, hji10⟩ : ∃ j_ : Int, (mx fx a6u) = j_ := ⟨_, rfl⟩; replace H : (impl_highest.l0 k1 l1 l2 ji10 ab (ab.length : Int) (wrap64 (ko + 1)) ae ac ab) = some r := by first | (rw [hji10] at H; exact H) | (simp only [hji10] at H ⊢; exact H)
      (try rw [hji10] at A9); have hji10_ : (if fx < a6u then a6u else fx) = ji10 := hji10; have H' := Aside0.mk H; clear H; have ais : 0 ≤ (ko : Int) := of_decide_eq_true z_9; have ait : ko < (ab.length : Int) := of_decide_eq_true z_9; obtain ⟨aiu, aiv, aiw, anf, ang, ave, aix, aiy, aiz, anh, ani, anj, ank⟩ := at_T27 dk.out ko ais ait; cases ave; replace aix := (HB.out.cell (World.block_lt_of_cell? w _ aix)).trans aix; replace aiy := (HB.out.cell (World.block_lt_of_cell? w _ aiy)).trans aiy; replace aiz := (HB.out.cell (World.block_lt_of_cell? w _ aiz)).trans aiz; have avf := Aside0.mk ani; have avg := Aside0.mk anh; clear ani anh; have avh := Aside0.mk ank; have avi := Aside0.mk anj; clear ank anj; replace ais := eq_true ais; replace ait := eq_true ait; go_wp2_with (first | ((with_reducible refine gate_dst (N := 9) rfl ?_); refine box_event ?hg (N := 9) ?hd (cs := #[.string (⟨#[]⟩ : ByteArray), .slice none 0 0, .slice none 0 0]) (t := 27) ?hr ?_; (case hd => rfl); (case hg => rfl); (case hr => first | (go_simp; done) | (go_simp; rfl)); intro aav hg vu hbox hb; have a1f := ak hbox; have b6k := ak ((z_10 HB.out sx.out : w.heap.size ≤ aav)); have a6v := ak ((z_10 HB.out sx.out : w.heap.size ≤ aav)); replace HB := ak (below_step (z_5 HB.out sx.out) hb); have af6 := ak ((by rw [hg]; exact Nat.ne_of_lt (blk_lt (g := a1e) (o := .cells #[.string ae, .slice am ac.length an, .slice (some aiu) ab.length ao] 27 (0, 0)) (z_8 ne.out)) : a1e ≠ aav)); have avj := ak ((by rw [hg]; exact Nat.ne_of_gt (blk_lt (g := a1e) (o := .cells #[.string ae, .slice am ac.length an, .slice (some aiu) ab.length ao] 27 (0, 0)) (z_8 ne.out)) : aav ≠ a1e)); replace ne := bb ne hb; clear hb hbox hg; have an2 := avj.out; have an3 := af6.out; have sp := bc a1f.out 0; have sq := bc a1f.out 1; have sr := bc a1f.out 2; have su := blk_frozen a1f.out 0; have sv := blk_frozen a1f.out 1; have sw := blk_frozen a1f.out 2) | ((with_reducible refine gate_callee (f := 33) rfl ?_); refine gl_ 21 Try.func33 #[.agg #[.string ((rd_T27 ab ko).f0), .slice aiv ((rd_T27 ab ko).f1).length aiw, .slice anf ((rd_T27 ab ko).f2).length ang], .slice A1 l1.length c1, .slice A2 l2.length c2] ?_; refine (ih k1 (by have := HK1.out; omega) ((rd_T27 ab ko).f0) _ _ ((rd_T27 ab ko).f1) _ _ ((rd_T27 ab ko).f2) _ _ l1 _ _ l2 a6u _ (Kd.C_below avf.out (z_11 HB.out sx.out a6v.out)) avg.out (Kd.C_below avh.out (z_11 HB.out sx.out a6v.out)) avi.out (Kd.C_below el.out (z_11 HB.out sx.out a6v.out)) ex.out (Kd.C_below ff.out (z_11 HB.out sx.out a6v.out)) gb.out A9.out).mono ?_; rintro e w14 ⟨rfl, hb⟩; refine ⟨_, rfl, ?_⟩; replace ne := ak (blk_below (g := a1e) (o := .cells #[.string ae, .slice am ac.length an, .slice (some aiu) ab.length ao] 27 (0, 0)) (z_13 af6.out ne.out) hb); replace a1f := ak (blk_below (g := aav) (o := .cells #[.string ((rd_T27 ab ko).f0), .slice aiv ((rd_T27 ab ko).f1).length aiw, .slice anf ((rd_T27 ab ko).f2).length ang] 27 (0, 0)) (by (with_reducible repeat (first | refine blk_drewN ?_ _ | refine blk_drew ?_ | refine blk_alloc ?_ _)); refine blk_put (cs := #[.string ((rd_T27 ab ko).f0), .slice aiv ((rd_T27 ab ko).f1).length aiw, .slice none 0 0]) ?_ 2 _ rfl; (with_reducible repeat (first | refine blk_drewN ?_ _ | refine blk_drew ?_ | refine blk_alloc ?_ _)); refine blk_put (cs := #[.string ((rd_T27 ab ko).f0), .slice none 0 0, .slice none 0 0]) ?_ 1 _ rfl; (with_reducible repeat (first | refine blk_drewN ?_ _ | refine blk_drew ?_ | refine blk_alloc ?_ _)); refine blk_put (cs := #[.string (⟨#[]⟩ : ByteArray), .slice none 0 0, .slice none 0 0]) ?_ 0 _ rfl; (with_reducible repeat (first | refine blk_drewN ?_ _ | refine blk_drew ?_ | refine blk_alloc ?_ _)); exact a1f.out) hb); replace HB := ak (below_step (z_11 HB.out sx.out a6v.out) hb); (try clear hb); (try clear hb2); (try clear hk); (try clear hi)))
      go_roundg k1
      case measure => have := HK1.out; omega
      case rel => exact ⟨(ji10), (wrap64 (ko + 1)), (by first | rfl | (simp; done) | (simp only [← hji10] <;> (first | rfl | simp)) | (simp [*]; done)), z_6, H', ⟨by have := HK1.out; omega⟩, ⟨z_8 ne.out⟩, ⟨z_11 HB.out sx.out a6v.out⟩⟩
     ·rw [if_neg c8] at H; exact absurd H (by simp)
    ·rw [if_neg c7] at H; exact absurd H (by simp)
   ·rw [if_neg c6] at H; have nw := decide_eq_false c6; clear c6; replace H := Option.bind_eq_some_iff.mp H; obtain ⟨air, aaw, H⟩ := H; have A15 := Aside0.mk aaw; clear aaw; obtain rfl := Option.some.inj H; obtain ⟨aag, aah, aai, aaj, aak, aal⟩ := cf ne.out; go_wp2_with (first | ((with_reducible refine gate_callee (f := 22) rfl ?_); refine gl_ 27 Try.func22 #[.agg #[.string ae, .slice am ac.length an, .slice ar ab.length ao], .slice A1 l1.length c1, .slice A2 l2.length c2] ?_; refine (impl_WordsIn.calls k1 ae _ _ ac _ _ ab _ _ l1 _ _ l2 air _ (z_25 du.out HB.out) eb.out (z_25 dk.out HB.out) ef.out (z_25 el.out HB.out) ex.out (z_25 ff.out HB.out) gb.out A15.out).mono ?_; rintro e qh ⟨rfl, hb⟩; refine ⟨_, rfl, ?_⟩; replace ne := bb ne hb; replace HB := ak (below_step (z_5 HB.out sx.out) hb); (try clear hb); (try clear hb2); (try clear hk); (try clear hi))); go_ret; exact ⟨z_17, z_5 HB.out sx.out⟩
def impl_Peak.f (k : Nat) (ae : ByteArray) (ac : List ByteArray) (ab : List (S27)) (l1 : List ByteArray) (l2 : List Int) : Option (Int) := (impl_SegOk.f k ae ac ab).bind fun aax => (if aax = true then ((impl_highest.f k ae ac ab l1 l2).bind fun aay => (some aay)) else (some 0))
theorem impl_Peak.mono : ∀ a0 a1 a2 a3 a4 k, LeO (impl_Peak.f k a0 a1 a2 a3 a4) (impl_Peak.f (k + 1) a0 a1 a2 a3 a4) := by
 intro a0 a1 a2 a3 a4 k; unfold impl_Peak.f
 repeat' first
  | (with_reducible exact impl_SegOk.mono _ _ _ _)
  | (with_reducible exact impl_highest.mono _ _ _ _ _ _)
  | (with_reducible exact LeO.refl _)
  | (with_reducible exact LeO.none _)
  | (with_reducible refine LeO.ite ?_ ?_)
  | (with_reducible refine LeO.bind ?_ (fun _ => ?_))
  | exact impl_SegOk.mono _ _ _ _
  | exact impl_highest.mono _ _ _ _ _ _
  | exact LeO.none _
  | refine LeO.ite ?_ ?_
  | refine LeO.bind ?_ (fun _ => ?_)
set_option maxHeartbeats 8000000 in
set_option maxRecDepth 100000 in
theorem impl_Peak.calls (k : Nat) (ae : ByteArray) (am : Option Addr) (an : Nat) (ac : List ByteArray) (ar : Option Addr) (ao : Nat) (ab : List (S27)) (A1 : Option Addr) (c1 : Nat) (l1 : List ByteArray) (A2 : Option Addr) (c2 : Nat) (l2 : List Int) (r : Int) (w : World) (hr0_1 : Kd.C Kd.string w am ac.length ac) (hc0_1 : ac.length ≤ an) (hr0_2 : Kd.C k27 w ar ab.length ab) (hc0_2 : ab.length ≤ ao) (hr1 : Kd.C Kd.string w A1 l1.length l1) (hc1 : l1.length ≤ c1) (hr2 : Kd.C (Kd.int .i64) w A2 l2.length l2) (hc2 : l2.length ≤ c2) (h : impl_Peak.f k ae ac ab l1 l2 = some r) :
 Calls Try.prog 12 #[.agg #[.string ae, .slice am ac.length an, .slice ar ab.length ao], .slice A1 l1.length c1, .slice A2 l2.length c2] w fun e w' => e = .returned (.int .i64 r) ∧ Below w.heap.size w w' := by
 have hu27 := Try.underlying27; have du := Aside0.mk hr0_1; have eb := Aside0.mk hc0_1; clear hr0_1 hc0_1; have dk := Aside0.mk hr0_2; have ef := Aside0.mk hc0_2; clear hr0_2 hc0_2; have el := Aside0.mk hr1; have ex := Aside0.mk hc1; clear hr1 hc1; have ff := Aside0.mk hr2; have gb := Aside0.mk hc2; clear hr2 hc2; have HB := Aside0.mk (Below.refl w.heap.size w); have H : ((impl_SegOk.f k ae ac ab).bind fun aax => (if aax = true then ((impl_highest.f k ae ac ab l1 l2).bind fun aay => (some aay)) else (some 0))) = some r := h; clear h; replace H := Option.bind_eq_some_iff.mp H; obtain ⟨aax, fe, H⟩ := H; have A4 := Aside0.mk fe; clear fe
 by_cases c5 : aax = true
 ·subst c5; rw [if_pos rfl] at H; replace H := Option.bind_eq_some_iff.mp H; obtain ⟨aay, ii, H⟩ := H; have A6 := Aside0.mk ii; clear ii; obtain rfl := Option.some.inj H
  go_enter Try.func12, Try.ntmps12
  go_wp2_with (first | ((with_reducible refine gate_dst (N := 3) rfl ?_); refine box_event ?hg (N := 3) ?hd (cs := #[.string ae, .slice am ac.length an, .slice ar ab.length ao]) (t := 27) ?hr ?_; (case hd => rfl); (case hg => rfl); (case hr => first | (go_simp; done) | (go_simp; rfl)); intro aaz hg w7 hbox hb; have jp := ak hbox; have avk := ak ((z_3 HB.out : w.heap.size ≤ aaz)); have a6w := ak ((z_3 HB.out : w.heap.size ≤ aaz)); replace HB := ak (below_step (z_4 HB.out) hb); clear hb hbox hg; have a6x := bc jp.out 0; have a6y := bc jp.out 1; have a6z := bc jp.out 2; have ab0 := blk_frozen jp.out 0; have ab1 := blk_frozen jp.out 1; have ab2 := blk_frozen jp.out 2) | ((with_reducible refine gate_callee (f := 28) rfl ?_); refine gl_ 8 Try.func28 #[.agg #[.string ae, .slice am ac.length an, .slice ar ab.length ao]] ?_; refine (impl_SegOk.calls k ae _ _ ac _ _ ab true _ (z_25 du.out HB.out) eb.out (z_25 dk.out HB.out) ef.out A4.out).mono ?_; rintro e w9 ⟨rfl, hb⟩; refine ⟨_, rfl, ?_⟩; replace jp := bb jp hb; replace HB := ak (below_step (z_5 HB.out a6w.out) hb); (try clear hb); (try clear hb2); (try clear hk); (try clear hi); have af7 := bc jp.out 0; have af8 := bc jp.out 1; have af9 := bc jp.out 2; have afa := blk_frozen jp.out 0; have afb := blk_frozen jp.out 1; have afc := blk_frozen jp.out 2) | ((with_reducible refine gate_callee (f := 33) rfl ?_); refine gl_ 13 Try.func33 #[.agg #[.string ae, .slice am ac.length an, .slice ar ab.length ao], .slice A1 l1.length c1, .slice A2 l2.length c2] ?_; refine (impl_highest.calls k ae _ _ ac _ _ ab _ _ l1 _ _ l2 aay _ (z_25 du.out HB.out) eb.out (z_25 dk.out HB.out) ef.out (z_25 el.out HB.out) ex.out (z_25 ff.out HB.out) gb.out A6.out).mono ?_; rintro e vu ⟨rfl, hb⟩; refine ⟨_, rfl, ?_⟩; replace jp := bb jp hb; replace HB := ak (below_step (z_5 HB.out a6w.out) hb); (try clear hb); (try clear hb2); (try clear hk); (try clear hi)))
  go_ret; exact ⟨z_17, z_5 HB.out a6w.out⟩
 ·replace c5 := Bool.eq_false_iff.mpr c5; subst c5; rw [if_neg (show ¬ (false = true) by decide)] at H; obtain rfl := Option.some.inj H
  go_enter Try.func12, Try.ntmps12
  go_wp2_with (first | ((with_reducible refine gate_dst (N := 3) rfl ?_); refine box_event ?hg (N := 3) ?hd (cs := #[.string ae, .slice am ac.length an, .slice ar ab.length ao]) (t := 27) ?hr ?_; (case hd => rfl); (case hg => rfl); (case hr => first | (go_simp; done) | (go_simp; rfl)); intro aaz hg xi hbox hb; have jp := ak hbox; have avk := ak ((z_3 HB.out : w.heap.size ≤ aaz)); have a6w := ak ((z_3 HB.out : w.heap.size ≤ aaz)); replace HB := ak (below_step (z_4 HB.out) hb); clear hb hbox hg; have sp := bc jp.out 0; have sq := bc jp.out 1; have sr := bc jp.out 2; have su := blk_frozen jp.out 0; have sv := blk_frozen jp.out 1; have sw := blk_frozen jp.out 2) | ((with_reducible refine gate_callee (f := 28) rfl ?_); refine gl_ 8 Try.func28 #[.agg #[.string ae, .slice am ac.length an, .slice ar ab.length ao]] ?_; refine (impl_SegOk.calls k ae _ _ ac _ _ ab false _ (z_25 du.out HB.out) eb.out (z_25 dk.out HB.out) ef.out A4.out).mono ?_; rintro e w14 ⟨rfl, hb⟩; refine ⟨_, rfl, ?_⟩; replace jp := bb jp hb; replace HB := ak (below_step (z_5 HB.out a6w.out) hb); (try clear hb); (try clear hb2); (try clear hk); (try clear hi)))
  go_ret; exact ⟨z_17, z_5 HB.out a6w.out⟩
mutual
def impl_Flat.l0 : Nat → List ByteArray → List Int → Int → List (S27) → Int → Int → Option (Int)
 | 0, _, _, _, _, _, _ => none
 | k + 1, x1, x2, x7, pn, sy, nf => if nf < sy then (if 0 ≤ nf then (if nf < (pn.length : Int) then ((impl_Flat.f k ((rd_T27 pn nf).f0) ((rd_T27 pn nf).f1) ((rd_T27 pn nf).f2) x1 x2).bind fun afd => (impl_Flat.l0 k x1 x2 (wrap64 (x7 + afd)) pn sy (wrap64 (nf + 1)))) else (none)) else (none)) else (some x7)
def impl_Flat.f : Nat → ByteArray → List ByteArray → List (S27) → List ByteArray → List Int → Option (Int)
 | 0, _, _, _, _, _ => none
 | k + 1, ae, ac, ab, l1, l2 => (impl_WordsIn.f k ae ac ab l1 l2).bind fun a7a => (impl_Flat.l0 k l1 l2 a7a ab (ab.length : Int) 0)
end
theorem impl_Flat.mono_l : ∀ k, (∀ y0 y1 y2 y3 y4, LeO (impl_Flat.f k y0 y1 y2 y3 y4) (impl_Flat.f (k + 1) y0 y1 y2 y3 y4)) ∧ (∀ y0 y1 y2 y3 y4 y5, LeO (impl_Flat.l0 k y0 y1 y2 y3 y4 y5) (impl_Flat.l0 (k + 1) y0 y1 y2 y3 y4 y5))
 | 0 => ⟨fun _ _ _ _ _ r h => by simp [impl_Flat.f] at h, fun _ _ _ _ _ _ r h => by simp [impl_Flat.l0] at h⟩
 | k + 1 => by
  obtain ⟨ih0, ih1⟩ := impl_Flat.mono_l k; refine ⟨?_, ?_⟩
  all_goals
   intros
   first | unfold impl_Flat.f | unfold impl_Flat.l0
   repeat' first
   | (with_reducible exact ih0 _ _ _ _ _)
   | (with_reducible exact ih1 _ _ _ _ _ _)
   | (with_reducible exact impl_WordsIn.mono _ _ _ _ _ _)
   | (with_reducible exact LeO.refl _)
   | (with_reducible exact LeO.none _)
   | (with_reducible refine LeO.ite ?_ ?_)
   | (with_reducible refine LeO.bind ?_ (fun _ => ?_))
   | exact ih0 _ _ _ _ _
   | exact ih1 _ _ _ _ _ _
   | exact impl_WordsIn.mono _ _ _ _ _ _
   | exact LeO.none _
   | refine LeO.ite ?_ ?_
   | refine LeO.bind ?_ (fun _ => ?_)
theorem impl_Flat.mono : ∀ a0 a1 a2 a3 a4 k, LeO (impl_Flat.f k a0 a1 a2 a3 a4) (impl_Flat.f (k + 1) a0 a1 a2 a3 a4) := by
 intro a0 a1 a2 a3 a4 k; obtain ⟨ih0, ih1⟩ := impl_Flat.mono_l k; exact ih0 a0 a1 a2 a3 a4
set_option maxHeartbeats 8000000 in
set_option maxRecDepth 100000 in
theorem impl_Flat.calls (k : Nat) : ∀ (ae : ByteArray) (am : Option Addr) (an : Nat) (ac : List ByteArray) (ar : Option Addr) (ao : Nat) (ab : List (S27)) (A1 : Option Addr) (c1 : Nat) (l1 : List ByteArray) (A2 : Option Addr) (c2 : Nat) (l2 : List Int) (r : Int) (w : World) (hr0_1 : Kd.C Kd.string w am ac.length ac) (hc0_1 : ac.length ≤ an) (hr0_2 : Kd.C k27 w ar ab.length ab) (hc0_2 : ab.length ≤ ao) (hr1 : Kd.C Kd.string w A1 l1.length l1) (hc1 : l1.length ≤ c1) (hr2 : Kd.C (Kd.int .i64) w A2 l2.length l2) (hc2 : l2.length ≤ c2) (h : impl_Flat.f k ae ac ab l1 l2 = some r),
 Calls Try.prog 13 #[.agg #[.string ae, .slice am ac.length an, .slice ar ab.length ao], .slice A1 l1.length c1, .slice A2 l2.length c2] w fun e w' => e = .returned (.int .i64 r) ∧ Below w.heap.size w w' := by
 induction k using Nat.strongRecOn with
 | _ k ih =>
 intro ae am an ac ar ao ab A1 c1 l1 A2 c2 l2 r w hr0_1 hc0_1 hr0_2 hc0_2 hr1 hc1 hr2 hc2 h
 cases k with
 | zero => exact absurd h (by simp [impl_Flat.f])
 | succ k =>
 simp only [impl_Flat.f] at h; have hu27 := Try.underlying27; have du := Aside0.mk hr0_1; have eb := Aside0.mk hc0_1; clear hr0_1 hc0_1; have dk := Aside0.mk hr0_2; have ef := Aside0.mk hc0_2; clear hr0_2 hc0_2; have el := Aside0.mk hr1; have ex := Aside0.mk hc1; clear hr1 hc1; have ff := Aside0.mk hr2; have gb := Aside0.mk hc2; clear hr2 hc2; have HB := Aside0.mk (Below.refl w.heap.size w); have H : ((impl_WordsIn.f k ae ac ab l1 l2).bind fun a7a => (impl_Flat.l0 k l1 l2 a7a ab (ab.length : Int) 0)) = some r := h; clear h; replace H := Option.bind_eq_some_iff.mp H; obtain ⟨a7a, fe, H⟩ := H; have A4 := Aside0.mk fe; clear fe; have H' := Aside0.mk H; clear H
 go_enter Try.func13, Try.ntmps13
 go_wp2_with (first | ((with_reducible refine gate_dst (N := 3) rfl ?_); refine box_event ?hg (N := 3) ?hd (cs := #[.string ae, .slice am ac.length an, .slice ar ab.length ao]) (t := 27) ?hr ?_; (case hd => rfl); (case hg => rfl); (case hr => first | (go_simp; done) | (go_simp; rfl)); intro a1g hg w5 hbox hb; have kp := ak hbox; have b6l := ak ((z_3 HB.out : w.heap.size ≤ a1g)); have ta := ak ((z_3 HB.out : w.heap.size ≤ a1g)); replace HB := ak (below_step (z_4 HB.out) hb); clear hb hbox hg; have a2h := bc kp.out 0; have a2i := bc kp.out 1; have a2j := bc kp.out 2; have a2k := blk_frozen kp.out 0; have a2l := blk_frozen kp.out 1; have a2m := blk_frozen kp.out 2) | ((with_reducible refine gate_callee (f := 22) rfl ?_); refine gl_ 13 Try.func22 #[.agg #[.string ae, .slice am ac.length an, .slice ar ab.length ao], .slice A1 l1.length c1, .slice A2 l2.length c2] ?_; refine (impl_WordsIn.calls k ae _ _ ac _ _ ab _ _ l1 _ _ l2 a7a _ (z_25 du.out HB.out) eb.out (z_25 dk.out HB.out) ef.out (z_25 el.out HB.out) ex.out (z_25 ff.out HB.out) gb.out A4.out).mono ?_; rintro e w7 ⟨rfl, hb⟩; refine ⟨_, rfl, ?_⟩; replace kp := bb kp hb; replace HB := ak (below_step (z_5 HB.out ta.out) hb); (try clear hb); (try clear hb2); (try clear hk); (try clear hi); have a6x := bc kp.out 0; have a6y := bc kp.out 1; have a6z := bc kp.out 2; have ab0 := blk_frozen kp.out 0; have ab1 := blk_frozen kp.out 1; have ab2 := blk_frozen kp.out 2))
 go_loopg [7, 17] k (fun kq v7 v17 w' => ∃ (fx : Int) (ld : Int), v7 = .int .i64 fx ∧ v17 = .int .i64 ld ∧ Aside0 (impl_Flat.l0 kq l1 l2 fx ab (ab.length : Int) ld = some r) ∧ Aside0 (kq ≤ k) ∧ Aside0 (w'.heap[a1g]? = some (.cells #[.string ae, (.slice am ac.length an), (.slice ar ab.length ao)] 27 (0, 0))) ∧ Aside0 (Below w.heap.size w w'))
 case atStart => exact ⟨(a7a), (0), z_6, z_6, H', ⟨Nat.le_refl _⟩, ⟨z_8 kp.out⟩, ⟨z_5 HB.out ta.out⟩⟩
 case round =>
  clear H'; (try clear c1); (try clear c2); (try clear a2h); (try clear a2i); (try clear a2j); (try clear a6x); (try clear a6y); (try clear a6z); (try clear a2k); (try clear a2l); (try clear a2m); (try clear ab0); (try clear ab1); (try clear ab2); obtain ⟨fx, ld, rfl, rfl, HA, HK1, kp, HB⟩ := hrel
  cases gk with
  | zero => exact absurd HA.out (by simp [impl_Flat.l0])
  | succ k1 =>
   have H := HA.out; clear HA; simp only [impl_Flat.l0] at H
   by_cases c9 : ld < (ab.length : Int)
   ·rw [if_pos c9] at H; have si := decide_eq_true c9; clear c9
    by_cases ew : 0 ≤ ld
    ·rw [if_pos ew] at H; have agt := decide_eq_true ew; clear ew
     by_cases dw : ld < (ab.length : Int)
     ·rw [if_pos dw] at H; have ly := decide_eq_true dw; clear dw; replace H := Option.bind_eq_some_iff.mp H; obtain ⟨afd, a1h, H⟩ := H; have A12 := Aside0.mk a1h; clear a1h; have H' := Aside0.mk H; clear H; have aj0 : 0 ≤ (ld : Int) := of_decide_eq_true z_9; have aj1 : ld < (ab.length : Int) := of_decide_eq_true z_9; obtain ⟨aj2, aj3, aj4, anl, anm, avl, aj5, aj6, aj7, ann, ano, anp, anq⟩ := at_T27 dk.out ld aj0 aj1; cases avl; replace aj5 := (HB.out.cell (World.block_lt_of_cell? w _ aj5)).trans aj5; replace aj6 := (HB.out.cell (World.block_lt_of_cell? w _ aj6)).trans aj6; replace aj7 := (HB.out.cell (World.block_lt_of_cell? w _ aj7)).trans aj7; have avm := Aside0.mk ano; have avn := Aside0.mk ann; clear ano ann; have avo := Aside0.mk anq; have avp := Aside0.mk anp; clear anq anp; replace aj0 := eq_true aj0; replace aj1 := eq_true aj1; go_wp2_with (first | ((with_reducible refine gate_dst (N := 9) rfl ?_); refine box_event ?hg (N := 9) ?hd (cs := #[.string (⟨#[]⟩ : ByteArray), .slice none 0 0, .slice none 0 0]) (t := 27) ?hr ?_; (case hd => rfl); (case hg => rfl); (case hr => first | (go_simp; done) | (go_simp; rfl)); intro ab3 hg w13 hbox hb; have a1i := ak hbox; have b6m := ak ((z_10 HB.out ta.out : w.heap.size ≤ ab3)); have a7b := ak ((z_10 HB.out ta.out : w.heap.size ≤ ab3)); replace HB := ak (below_step (z_5 HB.out ta.out) hb); have afe := ak ((by rw [hg]; exact Nat.ne_of_lt (blk_lt (g := a1g) (o := .cells #[.string ae, .slice am ac.length an, .slice (some aj2) ab.length ao] 27 (0, 0)) (z_8 kp.out)) : a1g ≠ ab3)); have avq := ak ((by rw [hg]; exact Nat.ne_of_gt (blk_lt (g := a1g) (o := .cells #[.string ae, .slice am ac.length an, .slice (some aj2) ab.length ao] 27 (0, 0)) (z_8 kp.out)) : ab3 ≠ a1g)); replace kp := bb kp hb; clear hb hbox hg; have b6n := avq.out; have b6o := afe.out; have a0p := bc a1i.out 0; have a0q := bc a1i.out 1; have a0r := bc a1i.out 2; have a0s := blk_frozen a1i.out 0; have a0t := blk_frozen a1i.out 1; have a0u := blk_frozen a1i.out 2) | ((with_reducible refine gate_callee (f := 13) rfl ?_); refine gl_ 25 Try.func13 #[.agg #[.string ((rd_T27 ab ld).f0), .slice aj3 ((rd_T27 ab ld).f1).length aj4, .slice anl ((rd_T27 ab ld).f2).length anm], .slice A1 l1.length c1, .slice A2 l2.length c2] ?_; refine (ih k1 (by have := HK1.out; omega) ((rd_T27 ab ld).f0) _ _ ((rd_T27 ab ld).f1) _ _ ((rd_T27 ab ld).f2) _ _ l1 _ _ l2 afd _ (Kd.C_below avm.out (z_11 HB.out ta.out a7b.out)) avn.out (Kd.C_below avo.out (z_11 HB.out ta.out a7b.out)) avp.out (Kd.C_below el.out (z_11 HB.out ta.out a7b.out)) ex.out (Kd.C_below ff.out (z_11 HB.out ta.out a7b.out)) gb.out A12.out).mono ?_; rintro e w16 ⟨rfl, hb⟩; refine ⟨_, rfl, ?_⟩; replace kp := ak (blk_below (g := a1g) (o := .cells #[.string ae, .slice am ac.length an, .slice (some aj2) ab.length ao] 27 (0, 0)) (z_13 afe.out kp.out) hb); replace a1i := ak (blk_below (g := ab3) (o := .cells #[.string ((rd_T27 ab ld).f0), .slice aj3 ((rd_T27 ab ld).f1).length aj4, .slice anl ((rd_T27 ab ld).f2).length anm] 27 (0, 0)) (by (with_reducible repeat (first | refine blk_drewN ?_ _ | refine blk_drew ?_ | refine blk_alloc ?_ _)); refine blk_put (cs := #[.string ((rd_T27 ab ld).f0), .slice aj3 ((rd_T27 ab ld).f1).length aj4, .slice none 0 0]) ?_ 2 _ rfl; (with_reducible repeat (first | refine blk_drewN ?_ _ | refine blk_drew ?_ | refine blk_alloc ?_ _)); refine blk_put (cs := #[.string ((rd_T27 ab ld).f0), .slice none 0 0, .slice none 0 0]) ?_ 1 _ rfl; (with_reducible repeat (first | refine blk_drewN ?_ _ | refine blk_drew ?_ | refine blk_alloc ?_ _)); refine blk_put (cs := #[.string (⟨#[]⟩ : ByteArray), .slice none 0 0, .slice none 0 0]) ?_ 0 _ rfl; (with_reducible repeat (first | refine blk_drewN ?_ _ | refine blk_drew ?_ | refine blk_alloc ?_ _)); exact a1i.out) hb); replace HB := ak (below_step (z_11 HB.out ta.out a7b.out) hb); (try clear hb); (try clear hb2); (try clear hk); (try clear hi)))
      go_roundg k1
      case measure => have := HK1.out; omega
      case rel => exact ⟨(wrap64 (fx + afd)), (wrap64 (ld + 1)), z_6, z_6, H', ⟨by have := HK1.out; omega⟩, ⟨z_8 kp.out⟩, ⟨z_11 HB.out ta.out a7b.out⟩⟩
     ·rw [if_neg dw] at H; exact absurd H (by simp)
    ·rw [if_neg ew] at H; exact absurd H (by simp)
   ·rw [if_neg c9] at H; have si := decide_eq_false c9; clear c9; obtain rfl := Option.some.inj H; go_wp2; go_ret; exact ⟨z_17, z_5 HB.out ta.out⟩
def IsS63 (w0 W : World) (g : Nat) (f0 : List Int) (f1 : Int) (f2 : Int) : Prop := ∃ A0 c0, W.heap[g]? = some (.cells #[.slice A0 f0.length c0, .int .i64 f1, .int .i64 f2] 63 (0, 0)) ∧ w0.heap.size ≤ g ∧ Kd.C (Kd.int .u8) w0 A0 f0.length f0
theorem IsS63.grown {w0 W : World} {g : Nat} {f0 : List Int} {f1 : Int} {f2 : Int} {W1 : World} {row : Option Nat} (h : IsS63 w0 W g f0 f1 f2) (hw : W.grownBy W1 row) (hne : some g ≠ row) : IsS63 w0 W1 g f0 f1 f2 := by
 obtain ⟨A0, c0, hb, hg, hr0⟩ := h; exact ⟨A0, c0, blk_grown hb hw hne, hg, hr0⟩
theorem IsS63.own_neN {w0 W : World} {g : Nat} {f0 : List Int} {f1 : Int} {f2 : Int} {α : Type} {d : Kd α} {e : Nat} {base : Nat} {ok : Nat → Prop} {v : Value} {xs : List α} (h : IsS63 w0 W g f0 f1 f2) (ho : Kd.N d e W base ok v xs) (ht : e ≠ 63) : some g ≠ v.ownBlock := by
 obtain ⟨A0, c0, hb, hg, hr0⟩ := h; exact Kd.N_ne ho hb ht
theorem IsS63.fresh {w0 W : World} {g : Nat} {f0 : List Int} {f1 : Int} {f2 : Int} (h : IsS63 w0 W g f0 f1 f2) : ∀ k, W.heap.size ≤ k → k ≠ g := by
 obtain ⟨A0, c0, hb, hg, hr0⟩ := h; exact Kd.freshB hb
theorem IsS63.kept {w0 W : World} {g : Nat} {f0 : List Int} {f1 : Int} {f2 : Int} {W1 : World} {S : Nat → Prop} (h : IsS63 w0 W g f0 f1 f2) (hk : Kept W W1 S) (hne : ¬ S g) : IsS63 w0 W1 g f0 f1 f2 := by
 obtain ⟨A0, c0, hb, hg, hr0⟩ := h; exact ⟨A0, c0, blk_kept hb hk hne, hg, hr0⟩
theorem IsS63.below {w0 W : World} {g : Nat} {f0 : List Int} {f1 : Int} {f2 : Int} {W1 : World} (h : IsS63 w0 W g f0 f1 f2) (hw : Below W.heap.size W W1) : IsS63 w0 W1 g f0 f1 f2 := h.grown (grown_of_below hw none) (by simp)
theorem IsS63.alloc {w0 W : World} {g : Nat} {f0 : List Int} {f1 : Int} {f2 : Int} (h : IsS63 w0 W g f0 f1 f2) (o : Obj) : IsS63 w0 (W.alloc o) g f0 f1 f2 := h.below (below_alloc (Below.refl _ _) o)
theorem IsS63.drewN {w0 W : World} {g : Nat} {f0 : List Int} {f1 : Int} {f2 : Int} (h : IsS63 w0 W g f0 f1 f2) (m : Nat) : IsS63 w0 (W.drewN m) g f0 f1 f2 := h
theorem IsS63.drew {w0 W : World} {g : Nat} {f0 : List Int} {f1 : Int} {f2 : Int} (h : IsS63 w0 W g f0 f1 f2) : IsS63 w0 W.drew g f0 f1 f2 := h
theorem IsS63.at_ {w0 W : World} {g : Nat} {f0 : List Int} {f1 : Int} {f2 : Int} {w' : World} {m : Nat} (hq : W.drewN m = w') (h : IsS63 w0 W g f0 f1 f2) : IsS63 w0 w' g f0 f1 f2 := by subst hq; exact IsS63.drewN h m
theorem IsS63.apart {w0 W : World} {g : Nat} {f0 : List Int} {f1 : Int} {f2 : Int} {α : Type} {d : Kd α} {e : Nat} {base : Nat} {ok : Nat → Prop} {v : Value} {xs : List α} (h : IsS63 w0 W g f0 f1 f2) (ho : d.R e W base ok v xs) (ht : ∀ q, q ∈ e :: d.E → q ≠ 63) : d.R e W base (fun k => ok k ∧ k ≠ g) v xs := by
 obtain ⟨A0, c0, hb, hg, hr0⟩ := h; exact Kd.R_types ho hb ht
theorem IsS63.own_ne {w0 W : World} {g : Nat} {f0 : List Int} {f1 : Int} {f2 : Int} {α : Type} {d : Kd α} {e : Nat} {base : Nat} {ok : Nat → Prop} {v : Value} {xs : List α} (h : IsS63 w0 W g f0 f1 f2) (ho : d.R e W base ok v xs) (ht : e ≠ 63) : some g ≠ v.ownBlock := by
 obtain ⟨A0, c0, hb, hg, hr0⟩ := h; exact Kd.R_ne ho hb ht
theorem IsS63.apartQ {w0 W : World} {g : Nat} {f0 : List Int} {f1 : Int} {f2 : Int} {α : Type} {d : Kd α} {e : Nat} {base : Nat} {ok : Nat → Prop} {v : Value} {xs : List α} (h : IsS63 w0 W g f0 f1 f2) (ho : d.Q e W base ok v xs) (ht : ∀ q, q ∈ e :: d.E → q ≠ 63) : d.Q e W base (fun k => ok k ∧ k ≠ g) v xs := by
 obtain ⟨A0, c0, hb, hg, hr0⟩ := h; exact Kd.Q_types ho hb ht
theorem IsS63.own_neQ {w0 W : World} {g : Nat} {f0 : List Int} {f1 : Int} {f2 : Int} {α : Type} {d : Kd α} {e : Nat} {base : Nat} {ok : Nat → Prop} {v : Value} {xs : List α} (h : IsS63 w0 W g f0 f1 f2) (ho : d.Q e W base ok v xs) (ht : e ≠ 63) : some g ≠ v.ownBlock := by
 obtain ⟨A0, c0, hb, hg, hr0⟩ := h; exact Kd.Q_ne ho hb ht
theorem IsS63.apartS {w0 W : World} {g : Nat} {f0 : List Int} {f1 : Int} {f2 : Int} {α : Type} {d : Kd α} {e : Nat} {base : Nat} {ok : Nat → Prop} {v : Value} {xs : List α} (h : IsS63 w0 W g f0 f1 f2) (ho : d.S e W base ok v xs) (ht : ∀ q, q ∈ e :: d.E → q ≠ 63) : d.S e W base (fun k => ok k ∧ k ≠ g) v xs := by
 obtain ⟨A0, c0, hb, hg, hr0⟩ := h; exact Kd.S_types ho hb ht
theorem IsS63.own_neS {w0 W : World} {g : Nat} {f0 : List Int} {f1 : Int} {f2 : Int} {α : Type} {d : Kd α} {e : Nat} {base : Nat} {ok : Nat → Prop} {v : Value} {xs : List α} (h : IsS63 w0 W g f0 f1 f2) (ho : d.S e W base ok v xs) (ht : e ≠ 63) : some g ≠ v.ownBlock := by
 obtain ⟨A0, c0, hb, hg, hr0⟩ := h; exact Kd.S_ne ho hb ht
theorem IsS63.lt {w0 W : World} {g : Nat} {f0 : List Int} {f1 : Int} {f2 : Int} (h : IsS63 w0 W g f0 f1 f2) : g < W.heap.size := by
 obtain ⟨A0, c0, hb, hg, hr0⟩ := h; exact blk_lt hb
theorem IsS63.ge {w0 W : World} {g : Nat} {f0 : List Int} {f1 : Int} {f2 : Int} (h : IsS63 w0 W g f0 f1 f2) : w0.heap.size ≤ g := by
 obtain ⟨A0, c0, hb, hg, hr0⟩ := h; exact hg
theorem IsS63.ne_blk {w0 W : World} {g : Nat} {f0 : List Int} {f1 : Int} {f2 : Int} {a : Nat} {cs : Array Value} {t : TypeId} {fr : Nat × Nat} (h : IsS63 w0 W g f0 f1 f2) (hb2 : W.heap[a]? = some (.cells cs t fr)) (ht : t ≠ 63) : g ≠ a := by
 obtain ⟨A0, c0, hb, hg, hr0⟩ := h; rintro rfl; rw [hb] at hb2
 injection hb2 with hb2
 injection hb2 with _ ht2
 exact ht ht2.symm
theorem IsS63.far {w0 W : World} {g : Nat} {f0 : List Int} {f1 : Int} {f2 : Int} {p : Addr} (h : IsS63 w0 W g f0 f1 f2) (hne : g ≠ p.block) (u : Value) : IsS63 w0 (W.setCell p u) g f0 f1 f2 := by
 obtain ⟨A0, c0, hb, hg, hr0⟩ := h; exact ⟨A0, c0, blk_far hb hne u, hg, hr0⟩
theorem cellS63_0 {W : World} {g : Nat} {A0 : Option Addr} {c0 : Nat} {f0 : List Int} {f1 : Int} {f2 : Int} (h : W.heap[g]? = some (.cells #[.slice A0 f0.length c0, .int .i64 f1, .int .i64 f2] 63 (0, 0))) : W.cell? ⟨g, 0, none⟩ = some (.slice A0 f0.length c0) := (blk_cell h 0).trans rfl
theorem cellS63_1 {W : World} {g : Nat} {A0 : Option Addr} {c0 : Nat} {f0 : List Int} {f1 : Int} {f2 : Int} (h : W.heap[g]? = some (.cells #[.slice A0 f0.length c0, .int .i64 f1, .int .i64 f2] 63 (0, 0))) : W.cell? ⟨g, 1, none⟩ = some (.int .i64 f1) := (blk_cell h 1).trans rfl
theorem IsS63.set_1 {w0 W : World} {g : Nat} {f0 : List Int} {f1 : Int} {f2 : Int} (h : IsS63 w0 W g f0 f1 f2) (x : Int) : IsS63 w0 (W.setCell ⟨g, 1, none⟩ (.int .i64 x)) g f0 x f2 := by
 obtain ⟨A0, c0, hb, hg, hr0⟩ := h; exact ⟨A0, c0, by simpa using blk_set hb 1 (.int .i64 x), hg, hr0⟩
theorem cellS63_2 {W : World} {g : Nat} {A0 : Option Addr} {c0 : Nat} {f0 : List Int} {f1 : Int} {f2 : Int} (h : W.heap[g]? = some (.cells #[.slice A0 f0.length c0, .int .i64 f1, .int .i64 f2] 63 (0, 0))) : W.cell? ⟨g, 2, none⟩ = some (.int .i64 f2) := (blk_cell h 2).trans rfl
theorem IsS63.set_2 {w0 W : World} {g : Nat} {f0 : List Int} {f1 : Int} {f2 : Int} (h : IsS63 w0 W g f0 f1 f2) (x : Int) : IsS63 w0 (W.setCell ⟨g, 2, none⟩ (.int .i64 x)) g f0 f1 x := by
 obtain ⟨A0, c0, hb, hg, hr0⟩ := h; exact ⟨A0, c0, by simpa using blk_set hb 2 (.int .i64 x), hg, hr0⟩
theorem IsS63.new (w0 W : World) (A0 : Option Addr) (c0 : Nat) (f0 : List Int) (f1 : Int) (f2 : Int) (hB : Below w0.heap.size w0 W) (hr0 : Kd.C (Kd.int .u8) w0 A0 f0.length f0) : IsS63 w0 (W.alloc (.cells #[.slice A0 f0.length c0, .int .i64 f1, .int .i64 f2] 63)) W.heap.size f0 f1 f2 := ⟨A0, c0, by simpa using heap_alloc_new W _, hB.size, hr0⟩
def spec_l1New.l0 : Nat → List Int → Int → Int → Option (List Int × Int × Int)
 | 0, _, _, _ => none
 | k + 1, x0, x3, x4 => if x4 < (x0.length : Int) then (if x4 < 4000 then (if 0 ≤ x4 then (spec_l1New.l0 k x0 (Go.bits .and .i64 (wrap64 ((wrap64 ((wrap64 (x3 * 137)) + (wrap64 (rd x0 x4)))) + 11)) 1073741823) (wrap64 (x4 + 1))) else (none)) else (some (x0, 0, x3))) else (some (x0, 0, x3))
def spec_l1New.f (k : Nat) (l0 : List Int) : Option (List Int × Int × Int) := spec_l1New.l0 k l0 (wrap64 (766766 + (l0.length : Int))) 0
theorem spec_l1New.mono_l : ∀ k, (∀ y0 y1 y2, LeO (spec_l1New.l0 k y0 y1 y2) (spec_l1New.l0 (k + 1) y0 y1 y2))
 | 0 => fun _ _ _ r h => by simp [spec_l1New.l0] at h
 | k + 1 => by
  have ih0 := spec_l1New.mono_l k
  ·intro y0 y1 y2; unfold spec_l1New.l0
   repeat' first
   | (with_reducible exact ih0 _ _ _)
   | (with_reducible exact LeO.refl _)
   | (with_reducible exact LeO.none _)
   | (with_reducible refine LeO.ite ?_ ?_)
   | (with_reducible refine LeO.bind ?_ (fun _ => ?_))
   | exact ih0 _ _ _
   | exact LeO.none _
   | refine LeO.ite ?_ ?_
   | refine LeO.bind ?_ (fun _ => ?_)
theorem spec_l1New.mono : ∀ a0 k, LeO (spec_l1New.f k a0) (spec_l1New.f (k + 1) a0) := by
 intro a0 k; have ih0 := spec_l1New.mono_l k; unfold spec_l1New.f
 repeat' first
  | (with_reducible exact ih0 _ _ _)
  | (with_reducible exact LeO.refl _)
  | (with_reducible exact LeO.none _)
  | (with_reducible refine LeO.ite ?_ ?_)
  | (with_reducible refine LeO.bind ?_ (fun _ => ?_))
  | exact ih0 _ _ _
  | exact LeO.none _
  | refine LeO.ite ?_ ?_
  | refine LeO.bind ?_ (fun _ => ?_)
set_option maxHeartbeats 8000000 in
set_option maxRecDepth 100000 in
theorem spec_l1New.calls (k : Nat) (A0 : Option Addr) (c0 : Nat) (l0 : List Int) (r1 : List Int) (r2 : Int) (r3 : Int) (w0 w : World) (hB : Below w0.heap.size w0 w) (hr0 : Kd.C (Kd.int .u8) w0 A0 l0.length l0) (hc0 : l0.length ≤ c0) (h : spec_l1New.f k l0 = some (r1, r2, r3)) :
 Calls Try.prog 25 #[.slice A0 l0.length c0] w fun e w' => ∃ g_ : Nat, e = .returned (.pointer (some ⟨g_, 0, none⟩)) ∧ IsS63 w0 w' g_ r1 r2 r3 ∧ Below w0.heap.size w0 w' ∧ Below w.heap.size w w' := by
 have hu63 := Try.underlying63; have hh := Aside0.mk hr0; have lw := Aside0.mk hc0; clear hr0 hc0; have HBW := Aside0.mk (Below.refl w.heap.size w); have HW0 := Aside0.mk hB.size; have HB := Aside0.mk hB; clear hB; have H : (spec_l1New.l0 k l0 (wrap64 (766766 + (l0.length : Int))) 0) = some (r1, r2, r3) := h; clear h; have H' := Aside0.mk H; clear H
 go_enter Try.func25, Try.ntmps25
 go_wp2
 go_loopg [3, 4] k (fun kq v3 v4 w' => ∃ (cb : Int) (ev : Int), v3 = .int .i64 cb ∧ v4 = .int .i64 ev ∧ Aside0 (spec_l1New.l0 kq l0 cb ev = some (r1, r2, r3)) ∧ Aside0 (kq ≤ k) ∧ Aside0 (Below w0.heap.size w0 w') ∧ Aside0 (Below w.heap.size w w'))
 case atStart => exact ⟨(wrap64 (766766 + (l0.length : Int))), (0), z_6, z_6, H', ⟨Nat.le_refl _⟩, ⟨z_4 HB.out⟩, ⟨z_4 HBW.out⟩⟩
 case round =>
  clear H'; obtain ⟨cb, ev, rfl, rfl, HA, HK1, HB, HBW⟩ := hrel
  cases gk with
  | zero => exact absurd HA.out (by simp [spec_l1New.l0])
  | succ k1 =>
   have H := HA.out; clear HA; simp only [spec_l1New.l0] at H
   by_cases c2 : ev < (l0.length : Int)
   ·rw [if_pos c2] at H; have a1j := decide_eq_true c2; clear c2
    by_cases c3 : ev < 4000
    ·rw [if_pos c3] at H; have mw := decide_eq_true c3; clear c3
     by_cases c4 : 0 ≤ ev
     ·rw [if_pos c4] at H; have kj := decide_eq_true c4; clear c4; have H' := Aside0.mk H; clear H; have aj8 : 0 ≤ (ev : Int) := of_decide_eq_true z_9; have aj9 : ev < (l0.length : Int) := of_decide_eq_true z_9; obtain ⟨b6p, avr, anr⟩ := Kd.at_int hh.out ev aj8 aj9; cases avr; replace anr := pw_cell_below HB.out anr; replace aj8 := eq_true aj8; replace aj9 := eq_true aj9; go_wp2; go_roundg k1
      case measure => have := HK1.out; omega
      case rel => exact ⟨(Go.bits .and .i64 (wrap64 ((wrap64 ((wrap64 (cb * 137)) + (wrap64 (rd l0 ev)))) + 11)) 1073741823), (wrap64 (ev + 1)), z_6, z_6, H', ⟨by have := HK1.out; omega⟩, ⟨z_4 HB.out⟩, ⟨z_4 HBW.out⟩⟩
     ·rw [if_neg c4] at H; exact absurd H (by simp)
    ·rw [if_neg c3] at H; have mw := decide_eq_false c3; clear c3; simp only [Option.some.injEq, Prod.mk.injEq] at H; obtain ⟨rfl, rfl, rfl⟩ := H; go_wp2_with (first | ((with_reducible refine gate_dst (N := 31) rfl ?_); refine box_event ?hg (N := 31) ?hd (cs := #[.slice A0 l0.length c0, .int .i64 0, .int .i64 cb]) (t := 63) ?hr ?_; (case hd => rfl); (case hg => rfl); (case hr => first | (go_simp; done) | (go_simp; rfl)); intro aff hg w5 hbox hb; replace HB := ak (below_step (z_4 HB.out) hb); have avs := ak hbox; have avt := ak ((z_3 HBW.out : w.heap.size ≤ aff)); have ans := ak ((Nat.le_trans HW0.out (z_3 HBW.out : w.heap.size ≤ aff) : w0.heap.size ≤ aff)); replace HBW := ak (below_step HBW.out hb); clear hb hbox hg)); go_ret; exact ⟨_, rfl, (show IsS63 w0 _ aff l0 0 cb from ⟨_, _, z_8 avs.out, ans.out, hh.out⟩), z_5 HB.out ans.out, z_5 HBW.out avt.out⟩
   ·rw [if_neg c2] at H; have a1j := decide_eq_false c2; clear c2; simp only [Option.some.injEq, Prod.mk.injEq] at H; obtain ⟨rfl, rfl, rfl⟩ := H; go_wp2_with (first | ((with_reducible refine gate_dst (N := 31) rfl ?_); refine box_event ?hg (N := 31) ?hd (cs := #[.slice A0 l0.length c0, .int .i64 0, .int .i64 cb]) (t := 63) ?hr ?_; (case hd => rfl); (case hg => rfl); (case hr => first | (go_simp; done) | (go_simp; rfl)); intro afg hg w6 hbox hb; replace HB := ak (below_step (z_4 HB.out) hb); have avu := ak hbox; have avv := ak ((z_3 HBW.out : w.heap.size ≤ afg)); have ant := ak ((Nat.le_trans HW0.out (z_3 HBW.out : w.heap.size ≤ afg) : w0.heap.size ≤ afg)); replace HBW := ak (below_step HBW.out hb); clear hb hbox hg)); go_ret; exact ⟨_, rfl, (show IsS63 w0 _ afg l0 0 cb from ⟨_, _, z_8 avu.out, ant.out, hh.out⟩), z_5 HB.out ant.out, z_5 HBW.out avv.out⟩
end Go.Proofs.Ytdphpmejjlgpnaa.PFnTreesBent

