import Derived.Test.YtdphpmejjlgpnaaL0
import Derived.Test.YtdphpmejjlgpnaaL3
import Derived.Test.YtdphpmejjlgpnaaL5
import Derived.Test.YtdphpmejjlgpnaaLZ
namespace Go.Proofs.Ytdphpmejjlgpnaa.PFnLaidOver
open Go.RowKit Go.Proofs.YtdphpmejjlgpnaaW.PrintWords Go.Proofs.YtdphpmejjlgpnaaW.PrintLast Go.Proofs.YtdphpmejjlgpnaaW.PrintMore
attribute [local go_sem] max2_int min2_int max_two min_two max_three min_three max_four min_four
mutual
def impl_Layout.j0 : Nat → List ByteArray → List Int → Int → Bool → ByteArray → List ByteArray → List (S27) → Option ((List (S38)) × Bool)
 | 0, _, _, _, _, _, _, _ => none
 | k + 1, x1, x2, x3, x34, x270000, x270001, x270002 => if x34 = true then (some (([] : List (S38)), false)) else (impl_Layout.l0 k x1 x2 x3 x2 (x2.length : Int) 0 x270000 x270001 x270002)
def impl_Layout.l0 : Nat → List ByteArray → List Int → Int → List Int → Int → Int → ByteArray → List ByteArray → List (S27) → Option ((List (S38)) × Bool)
 | 0, _, _, _, _, _, _, _, _, _ => none
 | k + 1, x1, x2, x3, x35, x36, x37, x270000, x270001, x270002 => if x37 < x36 then (if 0 ≤ x37 then (if x37 < (x35.length : Int) then ((impl_within.f (rd x35 x37) 0 32767).bind fun t273 => (if t273 = true then (impl_Layout.l0 k x1 x2 x3 x35 x36 (wrap64 (x37 + 1)) x270000 x270001 x270002) else (some (([] : List (S38)), false)))) else (none)) else (none)) else ((impl_spans.f k x270000 x270001 x270002 x1 x2 x3).bind fun t274 => (impl_Layout.l1 k t274 t274 (t274.length : Int) 0))
def impl_Layout.l1 : Nat → List (S38) → List (S38) → Int → Int → Option ((List (S38)) × Bool)
 | 0, _, _, _, _ => none
 | k + 1, x12, x50, x51, x52 => if x52 < x51 then (if 0 ≤ x52 then (if x52 < (x50.length : Int) then (if ((rd_T38 x50 x52).f2) > 65536 then (some (([] : List (S38)), false)) else (impl_Layout.l1 k x12 x50 x51 (wrap64 (x52 + 1)))) else (none)) else (none)) else (some (x12, true))
end
def impl_Layout.f (k : Nat) (a0_0 : ByteArray) (l0_1 : List ByteArray) (l0_2 : List (S27)) (l1 : List ByteArray) (l2 : List Int) (a3 : Int) : Option ((List (S38)) × Bool) := (impl_SegOk.f k a0_0 l0_1 l0_2).bind fun t270 => (if t270 = true then ((impl_within.f a3 0 65535).bind fun t271 => (if t271 = true then (if (Int.tmod a3 2) = 0 then (impl_Layout.j0 k l1 l2 a3 ((l1.length : Int) != (l2.length : Int)) a0_0 l0_1 l0_2) else (impl_Layout.j0 k l1 l2 a3 true a0_0 l0_1 l0_2)) else (impl_Layout.j0 k l1 l2 a3 true a0_0 l0_1 l0_2))) else (impl_Layout.j0 k l1 l2 a3 true a0_0 l0_1 l0_2))
theorem impl_Layout.mono_l : ∀ k, (∀ y0 y1 y2 y3 y4 y5 y6, LeO (impl_Layout.j0 k y0 y1 y2 y3 y4 y5 y6) (impl_Layout.j0 (k + 1) y0 y1 y2 y3 y4 y5 y6)) ∧ (∀ y0 y1 y2 y3 y4 y5 y6 y7 y8, LeO (impl_Layout.l0 k y0 y1 y2 y3 y4 y5 y6 y7 y8) (impl_Layout.l0 (k + 1) y0 y1 y2 y3 y4 y5 y6 y7 y8)) ∧ (∀ y0 y1 y2 y3, LeO (impl_Layout.l1 k y0 y1 y2 y3) (impl_Layout.l1 (k + 1) y0 y1 y2 y3))
 | 0 => ⟨fun _ _ _ _ _ _ _ r h => by simp [impl_Layout.j0] at h, fun _ _ _ _ _ _ _ _ _ r h => by simp [impl_Layout.l0] at h, fun _ _ _ _ r h => by simp [impl_Layout.l1] at h⟩
 | k + 1 => by
  obtain ⟨ih0, ih1, ih2⟩ := impl_Layout.mono_l k
  refine ⟨?_, ?_, ?_⟩
  ·intro y0 y1 y2 y3 y4 y5 y6
   unfold impl_Layout.j0
   repeat' first
   | (with_reducible exact ih0 _ _ _ _ _ _ _)
   | (with_reducible exact ih1 _ _ _ _ _ _ _ _ _)
   | (with_reducible exact ih2 _ _ _ _)
   | (with_reducible exact impl_SegOk.mono _ _ _ _)
   | (with_reducible exact impl_spans.mono _ _ _ _ _ _ _)
   | (with_reducible exact LeO.refl _)
   | (with_reducible exact LeO.none _)
   | (with_reducible refine LeO.ite ?_ ?_)
   | (with_reducible refine LeO.bind ?_ (fun _ => ?_))
   | exact ih0 _ _ _ _ _ _ _
   | exact ih1 _ _ _ _ _ _ _ _ _
   | exact ih2 _ _ _ _
   | exact impl_SegOk.mono _ _ _ _
   | exact impl_spans.mono _ _ _ _ _ _ _
   | exact LeO.none _
   | refine LeO.ite ?_ ?_
   | refine LeO.bind ?_ (fun _ => ?_)
  ·intro y0 y1 y2 y3 y4 y5 y6 y7 y8
   unfold impl_Layout.l0
   repeat' first
   | (with_reducible exact ih0 _ _ _ _ _ _ _)
   | (with_reducible exact ih1 _ _ _ _ _ _ _ _ _)
   | (with_reducible exact ih2 _ _ _ _)
   | (with_reducible exact impl_SegOk.mono _ _ _ _)
   | (with_reducible exact impl_spans.mono _ _ _ _ _ _ _)
   | (with_reducible exact LeO.refl _)
   | (with_reducible exact LeO.none _)
   | (with_reducible refine LeO.ite ?_ ?_)
   | (with_reducible refine LeO.bind ?_ (fun _ => ?_))
   | exact ih0 _ _ _ _ _ _ _
   | exact ih1 _ _ _ _ _ _ _ _ _
   | exact ih2 _ _ _ _
   | exact impl_SegOk.mono _ _ _ _
   | exact impl_spans.mono _ _ _ _ _ _ _
   | exact LeO.none _
   | refine LeO.ite ?_ ?_
   | refine LeO.bind ?_ (fun _ => ?_)
  ·intro y0 y1 y2 y3
   unfold impl_Layout.l1
   repeat' first
   | (with_reducible exact ih0 _ _ _ _ _ _ _)
   | (with_reducible exact ih1 _ _ _ _ _ _ _ _ _)
   | (with_reducible exact ih2 _ _ _ _)
   | (with_reducible exact impl_SegOk.mono _ _ _ _)
   | (with_reducible exact impl_spans.mono _ _ _ _ _ _ _)
   | (with_reducible exact LeO.refl _)
   | (with_reducible exact LeO.none _)
   | (with_reducible refine LeO.ite ?_ ?_)
   | (with_reducible refine LeO.bind ?_ (fun _ => ?_))
   | exact ih0 _ _ _ _ _ _ _
   | exact ih1 _ _ _ _ _ _ _ _ _
   | exact ih2 _ _ _ _
   | exact impl_SegOk.mono _ _ _ _
   | exact impl_spans.mono _ _ _ _ _ _ _
   | exact LeO.none _
   | refine LeO.ite ?_ ?_
   | refine LeO.bind ?_ (fun _ => ?_)
theorem impl_Layout.mono : ∀ a0 a1 a2 a3 a4 a5 k, LeO (impl_Layout.f k a0 a1 a2 a3 a4 a5) (impl_Layout.f (k + 1) a0 a1 a2 a3 a4 a5) := by
 intro a0 a1 a2 a3 a4 a5 k
 obtain ⟨ih0, ih1, ih2⟩ := impl_Layout.mono_l k
 unfold impl_Layout.f
 repeat' first
  | (with_reducible exact ih0 _ _ _ _ _ _ _)
  | (with_reducible exact ih1 _ _ _ _ _ _ _ _ _)
  | (with_reducible exact ih2 _ _ _ _)
  | (with_reducible exact impl_SegOk.mono _ _ _ _)
  | (with_reducible exact impl_spans.mono _ _ _ _ _ _ _)
  | (with_reducible exact LeO.refl _)
  | (with_reducible exact LeO.none _)
  | (with_reducible refine LeO.ite ?_ ?_)
  | (with_reducible refine LeO.bind ?_ (fun _ => ?_))
  | exact ih0 _ _ _ _ _ _ _
  | exact ih1 _ _ _ _ _ _ _ _ _
  | exact ih2 _ _ _ _
  | exact impl_SegOk.mono _ _ _ _
  | exact impl_spans.mono _ _ _ _ _ _ _
  | exact LeO.none _
  | refine LeO.ite ?_ ?_
  | refine LeO.bind ?_ (fun _ => ?_)
set_option maxHeartbeats 8000000 in
set_option maxRecDepth 100000 in
theorem impl_Layout.calls (k : Nat) (a0_0 : ByteArray) (A0_1 : Option Addr) (c0_1 : Nat) (l0_1 : List ByteArray) (A0_2 : Option Addr) (c0_2 : Nat) (l0_2 : List (S27)) (A1 : Option Addr) (c1 : Nat) (l1 : List ByteArray) (A2 : Option Addr) (c2 : Nat) (l2 : List Int) (a3 : Int) (r1 : List (S38)) (r2 : Bool) (w : World) (hr0_1 : Kd.C Kd.string w A0_1 l0_1.length l0_1) (hc0_1 : l0_1.length ≤ c0_1) (hr0_2 : Kd.C k27 w A0_2 l0_2.length l0_2) (hc0_2 : l0_2.length ≤ c0_2) (hr1 : Kd.C Kd.string w A1 l1.length l1) (hc1 : l1.length ≤ c1) (hr2 : Kd.C (Kd.int .i64) w A2 l2.length l2) (hc2 : l2.length ≤ c2) (h : impl_Layout.f k a0_0 l0_1 l0_2 l1 l2 a3 = some (r1, r2)) :
 Calls Try.prog 7 #[.agg #[.string a0_0, .slice A0_1 l0_1.length c0_1, .slice A0_2 l0_2.length c0_2], .slice A1 l1.length c1, .slice A2 l2.length c2, .int .i64 a3] w fun e w' => ∃ v0_ : Value, e = .returned (.tuple #[v0_, .bool r2]) ∧ Kd.R k38 38 w' w.heap.size (fun _ => True) v0_ r1 ∧ Below w.heap.size w w' := by
 have hu27 := Try.underlying27
 have hu38 := Try.underlying38
 have HR0_1 := Aside0.mk hr0_1
 have HC0_1 := Aside0.mk hc0_1
 clear hr0_1 hc0_1
 have HR0_2 := Aside0.mk hr0_2
 have HC0_2 := Aside0.mk hc0_2
 clear hr0_2 hc0_2
 have HR1 := Aside0.mk hr1
 have HC1 := Aside0.mk hc1
 clear hr1 hc1
 have HR2 := Aside0.mk hr2
 have HC2 := Aside0.mk hc2
 clear hr2 hc2
 have HB := Aside0.mk (Below.refl w.heap.size w)
 have H : ((impl_SegOk.f k a0_0 l0_1 l0_2).bind fun t270 => (if t270 = true then ((impl_within.f a3 0 65535).bind fun t271 => (if t271 = true then (if (Int.tmod a3 2) = 0 then (impl_Layout.j0 k l1 l2 a3 ((l1.length : Int) != (l2.length : Int)) a0_0 l0_1 l0_2) else (impl_Layout.j0 k l1 l2 a3 true a0_0 l0_1 l0_2)) else (impl_Layout.j0 k l1 l2 a3 true a0_0 l0_1 l0_2))) else (impl_Layout.j0 k l1 l2 a3 true a0_0 l0_1 l0_2))) = some (r1, r2) := h
 clear h
 have HC5 := Aside0.mk H
 clear H
 go_enter Try.func7, Try.ntmps7
 go_upto_region 1 with (first | ((with_reducible refine gate_dst (N := 4) rfl ?_); (try (refine gate_guard (by rfl) ?_; dsimp only)); refine box_event ?hg (N := 4) ?hd (cs := #[.string a0_0, .slice A0_1 l0_1.length c0_1, .slice A0_2 l0_2.length c0_2]) (t := 27) ?hr ?_; (case hd => rfl); (case hg => rfl); (case hr => first | (go_simp; done) | (go_simp; rfl)); intro gb269 hg w6 hbox hb; have n0_ := Aside0.mk (below_step (z_4 HB.out) hb); have n1_ := Aside0.mk (hbox); have n2_ := Aside0.mk ((z_6 HB.out : w.heap.size ≤ gb269)); have n3_ := Aside0.mk ((z_6 HB.out : w.heap.size ≤ gb269)); clear HB; have HB := n0_; have BK269 := n1_; have GW269 := n2_; have GE269 := n3_; clear n0_ n1_ n2_ n3_; clear hb hbox hg))
 (try simp only [Act.put, List.setIfInBounds_toArray, List.set_cons_zero, List.set_cons_succ])
 go_cut [34] (fun v34 wc => ∃ (kq : Nat) (x34_4 : Bool), v34 = .bool x34_4 ∧ Aside0 (impl_Layout.j0 kq l1 l2 a3 x34_4 a0_0 l0_1 l0_2 = some (r1, r2)) ∧ Aside0 (kq ≤ k) ∧ Aside0 (wc.heap[gb269]? = some (.cells #[.string a0_0, (.slice A0_1 l0_1.length c0_1), (.slice A0_2 l0_2.length c0_2)] 27 (0, 0))) ∧ Aside0 (Below w.heap.size w wc))
 case first =>
  have H := HC5.out
  clear HC5
  replace H := Option.bind_eq_some_iff.mp H
  obtain ⟨t270, A70, H⟩ := H
  replace H : (if t270 = true then ((impl_within.f a3 0 65535).bind fun t271 => (if t271 = true then (if (Int.tmod a3 2) = 0 then (impl_Layout.j0 k l1 l2 a3 ((l1.length : Int) != (l2.length : Int)) a0_0 l0_1 l0_2) else (impl_Layout.j0 k l1 l2 a3 true a0_0 l0_1 l0_2)) else (impl_Layout.j0 k l1 l2 a3 true a0_0 l0_1 l0_2))) else (impl_Layout.j0 k l1 l2 a3 true a0_0 l0_1 l0_2)) = some (r1, r2) := H
  have A7 := Aside0.mk A70
  clear A70
  by_cases c8 : t270 = true
  ·subst c8
   have H1 : ((impl_within.f a3 0 65535).bind fun t271 => (if t271 = true then (if (Int.tmod a3 2) = 0 then (impl_Layout.j0 k l1 l2 a3 ((l1.length : Int) != (l2.length : Int)) a0_0 l0_1 l0_2) else (impl_Layout.j0 k l1 l2 a3 true a0_0 l0_1 l0_2)) else (impl_Layout.j0 k l1 l2 a3 true a0_0 l0_1 l0_2))) = some (r1, r2) := by rw [if_pos rfl] at H; exact H
   clear H
   have H := H1
   clear H1
   replace H := Option.bind_eq_some_iff.mp H
   obtain ⟨t271, A90, H⟩ := H
   replace H : (if t271 = true then (if (Int.tmod a3 2) = 0 then (impl_Layout.j0 k l1 l2 a3 ((l1.length : Int) != (l2.length : Int)) a0_0 l0_1 l0_2) else (impl_Layout.j0 k l1 l2 a3 true a0_0 l0_1 l0_2)) else (impl_Layout.j0 k l1 l2 a3 true a0_0 l0_1 l0_2)) = some (r1, r2) := H
   have A9 := Aside0.mk A90
   clear A90
   by_cases c10 : t271 = true
   ·subst c10
    have H1 : (if (Int.tmod a3 2) = 0 then (impl_Layout.j0 k l1 l2 a3 ((l1.length : Int) != (l2.length : Int)) a0_0 l0_1 l0_2) else (impl_Layout.j0 k l1 l2 a3 true a0_0 l0_1 l0_2)) = some (r1, r2) := by rw [if_pos rfl] at H; exact H
    clear H
    have H := H1
    clear H1
    by_cases c11 : (Int.tmod a3 2) = 0
    ·rw [if_pos c11] at H
     have c11b0 : ((Int.tmod a3 2) == 0) = true := beq_iff_eq.mpr c11
     have c11b1 : ((Int.tmod a3 2) != 0) = false := bne_eq_false_iff_eq.mpr c11
     clear c11
     (first | rw [c11b0] | (simp only [i64_w, i32_w]; rw [c11b0]) | skip)
     have H' := Aside0.mk H
     clear H
     have hcz12_0 : w6.cell? ⟨gb269, 0, none⟩ = some (.string a0_0) := (blk_cell BK269.out 0).trans rfl
     have hcz12_1 : w6.cell? ⟨gb269, 1, none⟩ = some (.slice A0_1 l0_1.length c0_1) := (blk_cell BK269.out 1).trans rfl
     have hcz12_2 : w6.cell? ⟨gb269, 2, none⟩ = some (.slice A0_2 l0_2.length c0_2) := (blk_cell BK269.out 2).trans rfl
     have hfz12_0 := blk_frozen BK269.out 0
     have hfz12_1 := blk_frozen BK269.out 1
     have hfz12_2 := blk_frozen BK269.out 2
     go_wp2_with (first | ((with_reducible refine gate_callee (f := 28) rfl ?_); refine gl_ 16 Try.func28 #[.agg #[.string a0_0, .slice A0_1 l0_1.length c0_1, .slice A0_2 l0_2.length c0_2]] ?_; (with_reducible refine (impl_SegOk.calls k a0_0 _ _ l0_1 _ _ l0_2 true _ ?side1 ?side2 ?side3 ?side4 A7.out).mono ?_); (case side1 => exact z_62 HR0_1.out HB.out); (case side2 => exact HC0_1.out); (case side3 => exact z_62 HR0_2.out HB.out); (case side4 => exact HC0_2.out); rintro e w13 ⟨rfl, hb⟩; refine ⟨_, rfl, ?_⟩; have n0_ := Aside0.mk (blk_below (g := gb269) (o := .cells #[.string a0_0, .slice A0_1 l0_1.length c0_1, .slice A0_2 l0_2.length c0_2] 27 (0, 0)) (z_7 BK269.out) hb); have n1_ := Aside0.mk (below_step (z_8 HB.out GE269.out) hb); clear BK269; clear HB; have BK269 := n0_; have HB := n1_; clear n0_ n1_; (try clear hb); (try clear hb2); (try clear hk); (try clear hi)) | (go_at_call 29; (with_reducible refine (impl_within.calls a3 0 65535 true _ A9.out).mono ?_); rintro e w' ⟨rfl, ⟨nd, rfl⟩⟩))
     go_meet
     case rel => exact ⟨_, (((l1.length : Int) != (l2.length : Int))), z_3, H', ⟨z_57⟩, ⟨z_7 BK269.out⟩, ⟨z_8 HB.out GE269.out⟩⟩
    ·rw [if_neg c11] at H
     have c11b0 : ((Int.tmod a3 2) == 0) = false := beq_eq_false_iff_ne.mpr c11
     have c11b1 : ((Int.tmod a3 2) != 0) = true := bne_iff_ne.mpr c11
     (first | rw [c11b0] | (simp only [i64_w, i32_w]; rw [c11b0]) | skip)
     have H' := Aside0.mk H
     clear H
     have hcz14_0 : w6.cell? ⟨gb269, 0, none⟩ = some (.string a0_0) := (blk_cell BK269.out 0).trans rfl
     have hcz14_1 : w6.cell? ⟨gb269, 1, none⟩ = some (.slice A0_1 l0_1.length c0_1) := (blk_cell BK269.out 1).trans rfl
     have hcz14_2 : w6.cell? ⟨gb269, 2, none⟩ = some (.slice A0_2 l0_2.length c0_2) := (blk_cell BK269.out 2).trans rfl
     have hfz14_0 := blk_frozen BK269.out 0
     have hfz14_1 := blk_frozen BK269.out 1
     have hfz14_2 := blk_frozen BK269.out 2
     go_wp2_with (first | ((with_reducible refine gate_callee (f := 28) rfl ?_); refine gl_ 16 Try.func28 #[.agg #[.string a0_0, .slice A0_1 l0_1.length c0_1, .slice A0_2 l0_2.length c0_2]] ?_; (with_reducible refine (impl_SegOk.calls k a0_0 _ _ l0_1 _ _ l0_2 true _ ?side1 ?side2 ?side3 ?side4 A7.out).mono ?_); (case side1 => exact z_62 HR0_1.out HB.out); (case side2 => exact HC0_1.out); (case side3 => exact z_62 HR0_2.out HB.out); (case side4 => exact HC0_2.out); rintro e w15 ⟨rfl, hb⟩; refine ⟨_, rfl, ?_⟩; have n0_ := Aside0.mk (blk_below (g := gb269) (o := .cells #[.string a0_0, .slice A0_1 l0_1.length c0_1, .slice A0_2 l0_2.length c0_2] 27 (0, 0)) (z_7 BK269.out) hb); have n1_ := Aside0.mk (below_step (z_8 HB.out GE269.out) hb); clear BK269; clear HB; have BK269 := n0_; have HB := n1_; clear n0_ n1_; (try clear hb); (try clear hb2); (try clear hk); (try clear hi)) | (go_at_call 29; (with_reducible refine (impl_within.calls a3 0 65535 true _ A9.out).mono ?_); rintro e w' ⟨rfl, ⟨nd, rfl⟩⟩))
     go_meet
     case rel => exact ⟨_, (true), z_3, H', ⟨z_57⟩, ⟨z_7 BK269.out⟩, ⟨z_8 HB.out GE269.out⟩⟩
   ·replace c10 := Bool.eq_false_iff.mpr c10
    subst c10
    have H1 : (impl_Layout.j0 k l1 l2 a3 true a0_0 l0_1 l0_2) = some (r1, r2) := by rw [if_neg (show ¬ (false = true) by decide)] at H; exact H
    clear H
    have H := H1
    clear H1
    have H' := Aside0.mk H
    clear H
    have hcz16_0 : w6.cell? ⟨gb269, 0, none⟩ = some (.string a0_0) := (blk_cell BK269.out 0).trans rfl
    have hcz16_1 : w6.cell? ⟨gb269, 1, none⟩ = some (.slice A0_1 l0_1.length c0_1) := (blk_cell BK269.out 1).trans rfl
    have hcz16_2 : w6.cell? ⟨gb269, 2, none⟩ = some (.slice A0_2 l0_2.length c0_2) := (blk_cell BK269.out 2).trans rfl
    have hfz16_0 := blk_frozen BK269.out 0
    have hfz16_1 := blk_frozen BK269.out 1
    have hfz16_2 := blk_frozen BK269.out 2
    go_wp2_with (first | ((with_reducible refine gate_callee (f := 28) rfl ?_); refine gl_ 16 Try.func28 #[.agg #[.string a0_0, .slice A0_1 l0_1.length c0_1, .slice A0_2 l0_2.length c0_2]] ?_; (with_reducible refine (impl_SegOk.calls k a0_0 _ _ l0_1 _ _ l0_2 true _ ?side1 ?side2 ?side3 ?side4 A7.out).mono ?_); (case side1 => exact z_62 HR0_1.out HB.out); (case side2 => exact HC0_1.out); (case side3 => exact z_62 HR0_2.out HB.out); (case side4 => exact HC0_2.out); rintro e w17 ⟨rfl, hb⟩; refine ⟨_, rfl, ?_⟩; have n0_ := Aside0.mk (blk_below (g := gb269) (o := .cells #[.string a0_0, .slice A0_1 l0_1.length c0_1, .slice A0_2 l0_2.length c0_2] 27 (0, 0)) (z_7 BK269.out) hb); have n1_ := Aside0.mk (below_step (z_8 HB.out GE269.out) hb); clear BK269; clear HB; have BK269 := n0_; have HB := n1_; clear n0_ n1_; (try clear hb); (try clear hb2); (try clear hk); (try clear hi)) | (go_at_call 29; (with_reducible refine (impl_within.calls a3 0 65535 false _ A9.out).mono ?_); rintro e w' ⟨rfl, ⟨nd, rfl⟩⟩))
    go_meet
    case rel => exact ⟨_, (true), z_3, H', ⟨z_57⟩, ⟨z_7 BK269.out⟩, ⟨z_8 HB.out GE269.out⟩⟩
  ·replace c8 := Bool.eq_false_iff.mpr c8
   subst c8
   have H1 : (impl_Layout.j0 k l1 l2 a3 true a0_0 l0_1 l0_2) = some (r1, r2) := by rw [if_neg (show ¬ (false = true) by decide)] at H; exact H
   clear H
   have H := H1
   clear H1
   have H' := Aside0.mk H
   clear H
   have hcz18_0 : w6.cell? ⟨gb269, 0, none⟩ = some (.string a0_0) := (blk_cell BK269.out 0).trans rfl
   have hcz18_1 : w6.cell? ⟨gb269, 1, none⟩ = some (.slice A0_1 l0_1.length c0_1) := (blk_cell BK269.out 1).trans rfl
   have hcz18_2 : w6.cell? ⟨gb269, 2, none⟩ = some (.slice A0_2 l0_2.length c0_2) := (blk_cell BK269.out 2).trans rfl
   have hfz18_0 := blk_frozen BK269.out 0
   have hfz18_1 := blk_frozen BK269.out 1
   have hfz18_2 := blk_frozen BK269.out 2
   go_wp2_with (first | ((with_reducible refine gate_callee (f := 28) rfl ?_); refine gl_ 16 Try.func28 #[.agg #[.string a0_0, .slice A0_1 l0_1.length c0_1, .slice A0_2 l0_2.length c0_2]] ?_; (with_reducible refine (impl_SegOk.calls k a0_0 _ _ l0_1 _ _ l0_2 false _ ?side1 ?side2 ?side3 ?side4 A7.out).mono ?_); (case side1 => exact z_62 HR0_1.out HB.out); (case side2 => exact HC0_1.out); (case side3 => exact z_62 HR0_2.out HB.out); (case side4 => exact HC0_2.out); rintro e w19 ⟨rfl, hb⟩; refine ⟨_, rfl, ?_⟩; have n0_ := Aside0.mk (blk_below (g := gb269) (o := .cells #[.string a0_0, .slice A0_1 l0_1.length c0_1, .slice A0_2 l0_2.length c0_2] 27 (0, 0)) (z_7 BK269.out) hb); have n1_ := Aside0.mk (below_step (z_8 HB.out GE269.out) hb); clear BK269; clear HB; have BK269 := n0_; have HB := n1_; clear n0_ n1_; (try clear hb); (try clear hb2); (try clear hk); (try clear hi)))
   go_meet
   case rel => exact ⟨_, (true), z_3, H', ⟨z_57⟩, ⟨z_7 BK269.out⟩, ⟨z_8 HB.out GE269.out⟩⟩
 case rest =>
  clear HC5
  try clear c1
  try clear c2
  try clear p2
  try clear c7
  try clear c8
  try clear c10
  try clear c11
  try clear c11b0
  try clear c11b1
  try clear hcz12_0
  try clear hcz12_1
  try clear hcz12_2
  try clear hcz14_0
  try clear hcz14_1
  try clear hcz14_2
  try clear hcz16_0
  try clear hcz16_1
  try clear hcz16_2
  try clear hcz18_0
  try clear hcz18_1
  try clear hcz18_2
  try clear hfz12_0
  try clear hfz12_1
  try clear hfz12_2
  try clear hfz14_0
  try clear hfz14_1
  try clear hfz14_2
  try clear hfz16_0
  try clear hfz16_1
  try clear hfz16_2
  try clear hfz18_0
  try clear hfz18_1
  try clear hfz18_2
  obtain ⟨kq, x34_4, rfl, HA, HJ4, BK269, HB⟩ := hcut
  cases kq with
  | zero => exact absurd HA.out (by simp [impl_Layout.j0])
  | succ kj4 =>
   have H := HA.out
   clear HA
   simp only [impl_Layout.j0] at H
   by_cases c20 : x34_4 = true
   ·subst c20
    have H1 : (some (([] : List (S38)), false)) = some (r1, r2) := by rw [if_pos rfl] at H; exact H
    clear H
    have H := H1
    clear H1
    simp only [Option.some.injEq, Prod.mk.injEq] at H
    obtain ⟨rfl, rfl⟩ := H
    go_wp2
    go_ret2
    exact ⟨_, z_9, z_35, z_8 HB.out GE269.out⟩
   ·replace c20 := Bool.eq_false_iff.mpr c20
    subst c20
    have H1 : (impl_Layout.l0 kj4 l1 l2 a3 l2 (l2.length : Int) 0 a0_0 l0_1 l0_2) = some (r1, r2) := by rw [if_neg (show ¬ (false = true) by decide)] at H; exact H
    clear H
    have H := H1
    clear H1
    have H' := Aside0.mk H
    clear H
    go_wp2
    go_loopg [37] kj4 (fun kq v37 w' => ∃ (x37_2 : Int), v37 = .int .i64 x37_2 ∧ Aside0 (impl_Layout.l0 kq l1 l2 a3 l2 (l2.length : Int) x37_2 a0_0 l0_1 l0_2 = some (r1, r2)) ∧ Aside0 (kq ≤ kj4) ∧ Aside0 (w'.heap[gb269]? = some (.cells #[.string a0_0, (.slice A0_1 l0_1.length c0_1), (.slice A0_2 l0_2.length c0_2)] 27 (0, 0))) ∧ Aside0 (Below w.heap.size w w'))
    case atStart => exact ⟨(0), z_3, H', ⟨Nat.le_refl _⟩, ⟨z_7 BK269.out⟩, ⟨z_8 HB.out GE269.out⟩⟩
    case round =>
     clear H'
     try clear c1
     try clear c2
     try clear p2
     try clear c7
     try clear c8
     try clear c10
     try clear c11
     try clear c11b0
     try clear c11b1
     try clear c20
     try clear hcz12_0
     try clear hcz12_1
     try clear hcz12_2
     try clear hcz14_0
     try clear hcz14_1
     try clear hcz14_2
     try clear hcz16_0
     try clear hcz16_1
     try clear hcz16_2
     try clear hcz18_0
     try clear hcz18_1
     try clear hcz18_2
     try clear hfz12_0
     try clear hfz12_1
     try clear hfz12_2
     try clear hfz14_0
     try clear hfz14_1
     try clear hfz14_2
     try clear hfz16_0
     try clear hfz16_1
     try clear hfz16_2
     try clear hfz18_0
     try clear hfz18_1
     try clear hfz18_2
     try clear p2
     obtain ⟨x37_2, rfl, HA, HK2, BK269, HB⟩ := hrel
     cases gk with
     | zero => exact absurd HA.out (by simp [impl_Layout.l0])
     | succ k2 =>
      have H := HA.out
      clear HA
      simp only [impl_Layout.l0] at H
      by_cases c21 : x37_2 < (l2.length : Int)
      ·rw [if_pos c21] at H
       have c21b0 : decide (x37_2 < (l2.length : Int)) = true := decide_eq_true c21
       clear c21
       by_cases c22 : 0 ≤ x37_2
       ·rw [if_pos c22] at H
        have c22b0 : decide (0 ≤ x37_2) = true := decide_eq_true c22
        clear c22
        by_cases c23 : x37_2 < (l2.length : Int)
        ·rw [if_pos c23] at H
         have c23b0 : decide (x37_2 < (l2.length : Int)) = true := decide_eq_true c23
         clear c23
         replace H := Option.bind_eq_some_iff.mp H
         obtain ⟨t273, A240, H⟩ := H
         replace H : (if t273 = true then (impl_Layout.l0 k2 l1 l2 a3 l2 (l2.length : Int) (wrap64 (x37_2 + 1)) a0_0 l0_1 l0_2) else (some (([] : List (S38)), false))) = some (r1, r2) := H
         have A24 := Aside0.mk A240
         clear A240
         by_cases c25 : t273 = true
         ·subst c25
          have H1 : (impl_Layout.l0 k2 l1 l2 a3 l2 (l2.length : Int) (wrap64 (x37_2 + 1)) a0_0 l0_1 l0_2) = some (r1, r2) := by rw [if_pos rfl] at H; exact H
          clear H
          have H := H1
          clear H1
          have H' := Aside0.mk H
          clear H
          have p272 : 0 ≤ (x37_2 : Int) := of_decide_eq_true z_5
          have q272 : x37_2 < (l2.length : Int) := of_decide_eq_true z_5
          obtain ⟨ad272, e272, hx272_0⟩ := Kd.at_int HR2.out x37_2 p272 q272
          cases e272
          replace hx272_0 := (HB.out.cell (World.block_lt_of_cell? w _ hx272_0)).trans hx272_0
          replace p272 := eq_true p272
          replace q272 := eq_true q272
          go_wp2_with (first | ((with_reducible refine gate_callee (f := 29) rfl ?_); refine gl_ 42 Try.func29 #[.int .i64 (rd l2 x37_2), .int .i64 0, .int .i64 32767] ?_; (with_reducible refine (impl_within.calls (rd l2 x37_2) 0 32767 true _ A24.out).mono ?_); rintro e w' ⟨rfl, ⟨nd, rfl⟩⟩; refine ⟨_, rfl, ?_⟩))
          go_roundg k2
          case measure => have := HJ4.out; have := HK2.out; omega
          case rel => exact ⟨(wrap64 (x37_2 + 1)), z_3, H', ⟨z_36 HJ4.out HK2.out⟩, ⟨z_7 BK269.out⟩, ⟨z_8 HB.out GE269.out⟩⟩
         ·replace c25 := Bool.eq_false_iff.mpr c25
          subst c25
          have H1 : (some (([] : List (S38)), false)) = some (r1, r2) := by rw [if_neg (show ¬ (false = true) by decide)] at H; exact H
          clear H
          have H := H1
          clear H1
          simp only [Option.some.injEq, Prod.mk.injEq] at H
          obtain ⟨rfl, rfl⟩ := H
          have p272 : 0 ≤ (x37_2 : Int) := of_decide_eq_true z_5
          have q272 : x37_2 < (l2.length : Int) := of_decide_eq_true z_5
          obtain ⟨ad272, e272, hx272_0⟩ := Kd.at_int HR2.out x37_2 p272 q272
          cases e272
          replace hx272_0 := (HB.out.cell (World.block_lt_of_cell? w _ hx272_0)).trans hx272_0
          replace p272 := eq_true p272
          replace q272 := eq_true q272
          go_wp2_with (first | ((with_reducible refine gate_callee (f := 29) rfl ?_); refine gl_ 42 Try.func29 #[.int .i64 (rd l2 x37_2), .int .i64 0, .int .i64 32767] ?_; (with_reducible refine (impl_within.calls (rd l2 x37_2) 0 32767 false _ A24.out).mono ?_); rintro e w' ⟨rfl, ⟨nd, rfl⟩⟩; refine ⟨_, rfl, ?_⟩))
          go_ret2
          exact ⟨_, z_9, z_35, z_8 HB.out GE269.out⟩
        ·rw [if_neg c23] at H
         exact absurd H (by simp)
       ·rw [if_neg c22] at H
        exact absurd H (by simp)
      ·rw [if_neg c21] at H
       have c21b0 : decide (x37_2 < (l2.length : Int)) = false := decide_eq_false c21
       clear c21
       replace H := Option.bind_eq_some_iff.mp H
       obtain ⟨t274, A260, H⟩ := H
       replace H : (impl_Layout.l1 k2 t274 t274 (t274.length : Int) 0) = some (r1, r2) := H
       have A26 := Aside0.mk A260
       clear A260
       have H' := Aside0.mk H
       clear H
       have hcz27_0 : wr.cell? ⟨gb269, 0, none⟩ = some (.string a0_0) := (blk_cell BK269.out 0).trans rfl
       have hcz27_1 : wr.cell? ⟨gb269, 1, none⟩ = some (.slice A0_1 l0_1.length c0_1) := (blk_cell BK269.out 1).trans rfl
       have hcz27_2 : wr.cell? ⟨gb269, 2, none⟩ = some (.slice A0_2 l0_2.length c0_2) := (blk_cell BK269.out 2).trans rfl
       have hfz27_0 := blk_frozen BK269.out 0
       have hfz27_1 := blk_frozen BK269.out 1
       have hfz27_2 := blk_frozen BK269.out 2
       go_wp2_with (first | ((with_reducible refine gate_callee (f := 30) rfl ?_); refine gl_ 49 Try.func30 #[.agg #[.string a0_0, .slice A0_1 l0_1.length c0_1, .slice A0_2 l0_2.length c0_2], .slice A1 l1.length c1, .slice A2 l2.length c2, .int .i64 a3] ?_; (with_reducible refine (impl_spans.calls k2 a0_0 _ _ l0_1 _ _ l0_2 _ _ l1 _ _ l2 a3 t274 _ ?side1 ?side2 ?side3 ?side4 ?side5 ?side6 ?side7 ?side8 A26.out).mono ?_); (case side1 => exact z_62 HR0_1.out HB.out); (case side2 => exact HC0_1.out); (case side3 => exact z_62 HR0_2.out HB.out); (case side4 => exact HC0_2.out); (case side5 => exact z_62 HR1.out HB.out); (case side6 => exact HC1.out); (case side7 => exact z_62 HR2.out HB.out); (case side8 => exact HC2.out); rintro e w28 ⟨v275, rfl, ho0, hb⟩; refine ⟨_, rfl, ?_⟩; have n0_ := Aside0.mk (Kd.R_lower ho0 (below_size (z_8 HB.out GE269.out))); have n1_ := Aside0.mk (blk_below (g := gb269) (o := .cells #[.string a0_0, .slice A0_1 l0_1.length c0_1, .slice A0_2 l0_2.length c0_2] 27 (0, 0)) (z_7 BK269.out) hb); have n2_ := Aside0.mk (below_step (z_8 HB.out GE269.out) hb); clear BK269; clear HB; have HO276 := n0_; have BK269 := n1_; have HB := n2_; clear n0_ n1_ n2_; (try clear hb); (try clear hb2); (try clear hk); (try clear hi); (try clear ho0); obtain ⟨Ao29, co29, eo29⟩ := Kd.R_slice HO276.out; subst eo29))
       go_loopg [52] k2 (fun kq v52 w' => ∃ (x52_3 : Int), v52 = .int .i64 x52_3 ∧ Aside0 (impl_Layout.l1 kq t274 t274 (t274.length : Int) x52_3 = some (r1, r2)) ∧ Aside0 (kq ≤ k2) ∧ Aside0 (Kd.R k38 38 w' w.heap.size (fun _ => True) (.slice Ao29 t274.length co29) t274) ∧ Aside0 (Kd.R k38 38 w' w.heap.size (fun _ => True) (.slice Ao29 t274.length co29) t274) ∧ Aside0 (w'.heap[gb269]? = some (.cells #[.string a0_0, (.slice A0_1 l0_1.length c0_1), (.slice A0_2 l0_2.length c0_2)] 27 (0, 0))) ∧ Aside0 (Below w.heap.size w w'))
       case atStart => exact ⟨(0), z_3, H', ⟨Nat.le_refl _⟩, ⟨z_17 HO276.out⟩, ⟨z_17 HO276.out⟩, ⟨z_7 BK269.out⟩, ⟨z_8 HB.out GE269.out⟩⟩
       case round =>
        clear H'
        try clear c1
        try clear c2
        try clear p2
        try clear q2
        try clear hx2
        try clear c3
        try clear p6
        try clear c7
        try clear c8
        try clear c10
        try clear c11
        try clear c11b0
        try clear c11b1
        try clear c20
        try clear c21
        try clear c21b0
        try clear c22
        try clear c22b0
        try clear c23
        try clear c23b0
        try clear c25
        try clear p27
        try clear q27
        try clear hx27
        try clear c28
        try clear c29
        try clear hcz12_0
        try clear hcz12_1
        try clear hcz12_2
        try clear hcz14_0
        try clear hcz14_1
        try clear hcz14_2
        try clear hcz16_0
        try clear hcz16_1
        try clear hcz16_2
        try clear hcz18_0
        try clear hcz18_1
        try clear hcz18_2
        try clear hcz27_0
        try clear hcz27_1
        try clear hcz27_2
        try clear hfz12_0
        try clear hfz12_1
        try clear hfz12_2
        try clear hfz14_0
        try clear hfz14_1
        try clear hfz14_2
        try clear hfz16_0
        try clear hfz16_1
        try clear hfz16_2
        try clear hfz18_0
        try clear hfz18_1
        try clear hfz18_2
        try clear hfz27_0
        try clear hfz27_1
        try clear hfz27_2
        try clear hx272_0
        try clear p2
        try clear p272
        try clear q272
        obtain ⟨x52_3, rfl, HA, HK3, HO_12, HO_50, BK269, HB⟩ := hrel
        cases gk with
        | zero => exact absurd HA.out (by simp [impl_Layout.l1])
        | succ k3 =>
         have H := HA.out
         clear HA
         simp only [impl_Layout.l1] at H
         by_cases c30 : x52_3 < (t274.length : Int)
         ·rw [if_pos c30] at H
          have c30b0 : decide (x52_3 < (t274.length : Int)) = true := decide_eq_true c30
          clear c30
          by_cases c31 : 0 ≤ x52_3
          ·rw [if_pos c31] at H
           have c31b0 : decide (0 ≤ x52_3) = true := decide_eq_true c31
           clear c31
           by_cases c32 : x52_3 < (t274.length : Int)
           ·rw [if_pos c32] at H
            have c32b0 : decide (x52_3 < (t274.length : Int)) = true := decide_eq_true c32
            clear c32
            by_cases c33 : ((rd_T38 t274 x52_3).f2) > 65536
            ·rw [if_pos c33] at H
             have c33b0 : decide (65536 < ((rd_T38 t274 x52_3).f2)) = true := decide_eq_true c33
             clear c33
             simp only [Option.some.injEq, Prod.mk.injEq] at H
             obtain ⟨rfl, rfl⟩ := H
             have p277 : 0 ≤ (x52_3 : Int) := of_decide_eq_true z_5
             have q277 : x52_3 < (t274.length : Int) := of_decide_eq_true z_5
             obtain ⟨ad277, e277, hx277_0, hx277_1, hx277_2⟩ := at_T38 (Kd.R_reads' HO_50.out).2.2 x52_3 p277 q277
             cases e277
             replace p277 := eq_true p277
             replace q277 := eq_true q277
             go_wp2_with (first | ((with_reducible refine gate_dst (N := 14) rfl ?_); (try (refine gate_guard (by rfl) ?_; dsimp only)); refine box_event ?hg (N := 14) ?hd (cs := #[.string (⟨#[]⟩ : ByteArray), .int .i64 0, .int .i64 0]) (t := 38) ?hr ?_; (case hd => rfl); (case hg => rfl); (case hr => first | (go_simp; done) | (go_simp; rfl)); intro gb278 hg w34 hbox hb; have n0_ := Aside0.mk (Kd.R_below (Kd.R_elderB (z_17 HO_12.out) gb278 (Nat.le_of_eq hg.symm)) hb); have n1_ := Aside0.mk (Kd.R_below (Kd.R_elderB (z_17 HO_50.out) gb278 (Nat.le_of_eq hg.symm)) hb); have n2_ := Aside0.mk (blk_below (g := gb269) (o := .cells #[.string a0_0, .slice A0_1 l0_1.length c0_1, .slice A0_2 l0_2.length c0_2] 27 (0, 0)) (z_7 BK269.out) hb); have n3_ := Aside0.mk (below_step (z_8 HB.out GE269.out) hb); have n4_ := Aside0.mk (hbox); have n5_ := Aside0.mk ((z_54 HB.out GE269.out : w.heap.size ≤ gb278)); have n6_ := Aside0.mk ((z_54 HB.out GE269.out : w.heap.size ≤ gb278)); have n7_ := Aside0.mk ((z_65 BK269.out : gb269 ≠ gb278)); have n8_ := Aside0.mk ((z_66 BK269.out : gb278 ≠ gb269)); clear HO_12; clear HO_50; clear BK269; clear HB; have HO_12 := n0_; have HO_50 := n1_; have BK269 := n2_; have HB := n3_; have BK278 := n4_; have GW278 := n5_; have GE278 := n6_; have NB269_278 := n7_; have NB278_269 := n8_; clear n0_ n1_ n2_ n3_ n4_ n5_ n6_ n7_ n8_; clear hb hbox hg; have hnb35 := NB278_269.out; have hnc35 := NB269_278.out; have hcz36_0 : w34.cell? ⟨gb278, 0, none⟩ = some (.string (⟨#[]⟩ : ByteArray)) := (blk_cell BK278.out 0).trans rfl; have hcz36_1 : w34.cell? ⟨gb278, 1, none⟩ = some (.int .i64 0) := (blk_cell BK278.out 1).trans rfl; have hcz36_2 : w34.cell? ⟨gb278, 2, none⟩ = some (.int .i64 0) := (blk_cell BK278.out 2).trans rfl; have hfz36_0 := blk_frozen BK278.out 0; have hfz36_1 := blk_frozen BK278.out 1; have hfz36_2 := blk_frozen BK278.out 2))
             go_ret2
             exact ⟨_, z_9, z_35, z_55 HB.out GE269.out GE278.out⟩
            ·rw [if_neg c33] at H
             have c33b0 : decide (65536 < ((rd_T38 t274 x52_3).f2)) = false := decide_eq_false c33
             clear c33
             have H' := Aside0.mk H
             clear H
             have p277 : 0 ≤ (x52_3 : Int) := of_decide_eq_true z_5
             have q277 : x52_3 < (t274.length : Int) := of_decide_eq_true z_5
             obtain ⟨ad277, e277, hx277_0, hx277_1, hx277_2⟩ := at_T38 (Kd.R_reads' HO_50.out).2.2 x52_3 p277 q277
             cases e277
             replace p277 := eq_true p277
             replace q277 := eq_true q277
             go_wp2_with (first | ((with_reducible refine gate_dst (N := 14) rfl ?_); (try (refine gate_guard (by rfl) ?_; dsimp only)); refine box_event ?hg (N := 14) ?hd (cs := #[.string (⟨#[]⟩ : ByteArray), .int .i64 0, .int .i64 0]) (t := 38) ?hr ?_; (case hd => rfl); (case hg => rfl); (case hr => first | (go_simp; done) | (go_simp; rfl)); intro gb278 hg w37 hbox hb; have n0_ := Aside0.mk (Kd.R_below (Kd.R_elderB (z_17 HO_12.out) gb278 (Nat.le_of_eq hg.symm)) hb); have n1_ := Aside0.mk (Kd.R_below (Kd.R_elderB (z_17 HO_50.out) gb278 (Nat.le_of_eq hg.symm)) hb); have n2_ := Aside0.mk (blk_below (g := gb269) (o := .cells #[.string a0_0, .slice A0_1 l0_1.length c0_1, .slice A0_2 l0_2.length c0_2] 27 (0, 0)) (z_7 BK269.out) hb); have n3_ := Aside0.mk (below_step (z_8 HB.out GE269.out) hb); have n4_ := Aside0.mk (hbox); have n5_ := Aside0.mk ((z_54 HB.out GE269.out : w.heap.size ≤ gb278)); have n6_ := Aside0.mk ((z_54 HB.out GE269.out : w.heap.size ≤ gb278)); have n7_ := Aside0.mk ((z_65 BK269.out : gb269 ≠ gb278)); have n8_ := Aside0.mk ((z_66 BK269.out : gb278 ≠ gb269)); clear HO_12; clear HO_50; clear BK269; clear HB; have HO_12 := n0_; have HO_50 := n1_; have BK269 := n2_; have HB := n3_; have BK278 := n4_; have GW278 := n5_; have GE278 := n6_; have NB269_278 := n7_; have NB278_269 := n8_; clear n0_ n1_ n2_ n3_ n4_ n5_ n6_ n7_ n8_; clear hb hbox hg; have hnb38 := NB278_269.out; have hnc38 := NB269_278.out; have hcz39_0 : w37.cell? ⟨gb278, 0, none⟩ = some (.string (⟨#[]⟩ : ByteArray)) := (blk_cell BK278.out 0).trans rfl; have hcz39_1 : w37.cell? ⟨gb278, 1, none⟩ = some (.int .i64 0) := (blk_cell BK278.out 1).trans rfl; have hcz39_2 : w37.cell? ⟨gb278, 2, none⟩ = some (.int .i64 0) := (blk_cell BK278.out 2).trans rfl; have hfz39_0 := blk_frozen BK278.out 0; have hfz39_1 := blk_frozen BK278.out 1; have hfz39_2 := blk_frozen BK278.out 2))
             go_roundg k3
             case measure => have := HJ4.out; have := HK2.out; have := HK3.out; omega
             case rel => exact ⟨(wrap64 (x52_3 + 1)), z_3, H', ⟨z_60 HJ4.out HK2.out HK3.out⟩, ⟨z_67 HO_12.out⟩, ⟨z_67 HO_50.out⟩, ⟨z_22 NB269_278.out BK269.out⟩, ⟨z_55 HB.out GE269.out GE278.out⟩⟩
           ·rw [if_neg c32] at H
            exact absurd H (by simp)
          ·rw [if_neg c31] at H
           exact absurd H (by simp)
         ·rw [if_neg c30] at H
          have c30b0 : decide (x52_3 < (t274.length : Int)) = false := decide_eq_false c30
          clear c30
          simp only [Option.some.injEq, Prod.mk.injEq] at H
          obtain ⟨rfl, rfl⟩ := H
          go_wp2
          go_ret2
          exact ⟨_, z_9, z_17 HO_12.out, z_8 HB.out GE269.out⟩
def laws_sameTexts.l0 : Nat → List ByteArray → List ByteArray → Int → Option (Bool)
 | 0, _, _, _ => none
 | k + 1, x0, x1, x5 => if x5 < (x0.length : Int) then (if 0 ≤ x5 then (if x5 < (x1.length : Int) then (if (rdOf ByteArray.empty x0 x5).toList = (rdOf ByteArray.empty x1 x5).toList then (laws_sameTexts.l0 k x0 x1 (wrap64 (x5 + 1))) else (some false)) else (none)) else (none)) else (some true)
def laws_sameTexts.f (k : Nat) (l0 : List ByteArray) (l1 : List ByteArray) : Option (Bool) := if (l0.length : Int) = (l1.length : Int) then (laws_sameTexts.l0 k l0 l1 0) else (some false)
theorem laws_sameTexts.mono_l : ∀ k, (∀ y0 y1 y2, LeO (laws_sameTexts.l0 k y0 y1 y2) (laws_sameTexts.l0 (k + 1) y0 y1 y2))
 | 0 => fun _ _ _ r h => by simp [laws_sameTexts.l0] at h
 | k + 1 => by
  have ih0 := laws_sameTexts.mono_l k
  ·intro y0 y1 y2
   unfold laws_sameTexts.l0
   repeat' first
   | (with_reducible exact ih0 _ _ _)
   | (with_reducible exact LeO.refl _)
   | (with_reducible exact LeO.none _)
   | (with_reducible refine LeO.ite ?_ ?_)
   | (with_reducible refine LeO.bind ?_ (fun _ => ?_))
   | exact ih0 _ _ _
   | exact LeO.none _
   | refine LeO.ite ?_ ?_
   | refine LeO.bind ?_ (fun _ => ?_)
theorem laws_sameTexts.mono : ∀ a0 a1 k, LeO (laws_sameTexts.f k a0 a1) (laws_sameTexts.f (k + 1) a0 a1) := by
 intro a0 a1 k
 have ih0 := laws_sameTexts.mono_l k
 unfold laws_sameTexts.f
 repeat' first
  | (with_reducible exact ih0 _ _ _)
  | (with_reducible exact LeO.refl _)
  | (with_reducible exact LeO.none _)
  | (with_reducible refine LeO.ite ?_ ?_)
  | (with_reducible refine LeO.bind ?_ (fun _ => ?_))
  | exact ih0 _ _ _
  | exact LeO.none _
  | refine LeO.ite ?_ ?_
  | refine LeO.bind ?_ (fun _ => ?_)
set_option maxHeartbeats 8000000 in
set_option maxRecDepth 100000 in
theorem laws_sameTexts.calls (k : Nat) (A0 : Option Addr) (c0 : Nat) (l0 : List ByteArray) (A1 : Option Addr) (c1 : Nat) (l1 : List ByteArray) (r : Bool) (w : World) (hr0 : Kd.C Kd.string w A0 l0.length l0) (hc0 : l0.length ≤ c0) (hr1 : Kd.C Kd.string w A1 l1.length l1) (hc1 : l1.length ≤ c1) (h : laws_sameTexts.f k l0 l1 = some r) :
 Calls Try.prog 8 #[.slice A0 l0.length c0, .slice A1 l1.length c1] w fun e w' => e = .returned (.bool r) ∧ Drawn0 w w' := by
 have HR0 := Aside0.mk hr0
 have HC0 := Aside0.mk hc0
 clear hr0 hc0
 have HR1 := Aside0.mk hr1
 have HC1 := Aside0.mk hc1
 clear hr1 hc1
 have H : (if (l0.length : Int) = (l1.length : Int) then (laws_sameTexts.l0 k l0 l1 0) else (some false)) = some r := h
 clear h
 by_cases c3 : (l0.length : Int) = (l1.length : Int)
 ·rw [if_pos c3] at H
  have c3b0 : ((l0.length : Int) == (l1.length : Int)) = true := beq_iff_eq.mpr c3
  have c3b1 : ((l0.length : Int) != (l1.length : Int)) = false := bne_eq_false_iff_eq.mpr c3
  have c3b2 : (l0.length == l1.length) = true := by first | simpa using c3 | (simp at c3 ⊢; omega)
  clear c3
  have H' := Aside0.mk H
  clear H
  go_enter Try.func8, Try.ntmps8
  go_wp2
  repeat (go_quiet (fail); try go_wp2)
  go_loopg [5] k (fun kq v5 w' => ∃ (x5_1 : Int), v5 = .int .i64 x5_1 ∧ Aside0 (laws_sameTexts.l0 kq l0 l1 x5_1 = some r) ∧ Aside0 (kq ≤ k) ∧ Drawn0 w w')
  case atStart => exact ⟨(0), z_3, H', ⟨Nat.le_refl _⟩, z_2⟩
  case round =>
   clear H'
   try clear c1
   try clear p2
   try clear c3
   try clear c3b0
   try clear c3b1
   try clear c3b2
   obtain ⟨x5_1, rfl, HA, HK1, ⟨m1, rfl⟩⟩ := hrel
   cases gk with
   | zero => exact absurd HA.out (by simp [laws_sameTexts.l0])
   | succ k1 =>
    have H := HA.out
    clear HA
    simp only [laws_sameTexts.l0] at H
    by_cases c4 : x5_1 < (l0.length : Int)
    ·rw [if_pos c4] at H
     have c4b0 : decide (x5_1 < (l0.length : Int)) = true := decide_eq_true c4
     clear c4
     by_cases c5 : 0 ≤ x5_1
     ·rw [if_pos c5] at H
      have c5b0 : decide (0 ≤ x5_1) = true := decide_eq_true c5
      clear c5
      by_cases c6 : x5_1 < (l1.length : Int)
      ·rw [if_pos c6] at H
       have c6b0 : decide (x5_1 < (l1.length : Int)) = true := decide_eq_true c6
       clear c6
       by_cases c7 : (rdOf ByteArray.empty l0 x5_1).toList = (rdOf ByteArray.empty l1 x5_1).toList
       ·rw [if_pos c7] at H
        have c7b0 : ((rdOf ByteArray.empty l0 x5_1).toList == (rdOf ByteArray.empty l1 x5_1).toList) = true := beq_iff_eq.mpr c7
        have c7b1 : ((rdOf ByteArray.empty l0 x5_1).toList != (rdOf ByteArray.empty l1 x5_1).toList) = false := bne_eq_false_iff_eq.mpr c7
        clear c7
        have H' := Aside0.mk H
        clear H
        have p279 : 0 ≤ (x5_1 : Int) := of_decide_eq_true z_5
        have q279 : x5_1 < (l0.length : Int) := of_decide_eq_true z_5
        obtain ⟨ad279, e279, hx279_0⟩ := Kd.at_string HR0.out x5_1 p279 q279
        cases e279
        replace p279 := eq_true p279
        replace q279 := eq_true q279
        have p280 : 0 ≤ (x5_1 : Int) := of_decide_eq_true z_5
        have q280 : x5_1 < (l1.length : Int) := of_decide_eq_true z_5
        obtain ⟨ad280, e280, hx280_0⟩ := Kd.at_string HR1.out x5_1 p280 q280
        cases e280
        replace p280 := eq_true p280
        replace q280 := eq_true q280
        go_wp2
        repeat (go_quiet (fail); try go_wp2)
        go_roundg k1
        case measure => have := HK1.out; omega
        case rel => exact ⟨(wrap64 (x5_1 + 1)), z_3, H', ⟨by have := HK1.out; omega⟩, z_2⟩
       ·rw [if_neg c7] at H
        have c7b0 : ((rdOf ByteArray.empty l0 x5_1).toList == (rdOf ByteArray.empty l1 x5_1).toList) = false := beq_eq_false_iff_ne.mpr c7
        have c7b1 : ((rdOf ByteArray.empty l0 x5_1).toList != (rdOf ByteArray.empty l1 x5_1).toList) = true := bne_iff_ne.mpr c7
        obtain rfl := Option.some.inj H
        have p279 : 0 ≤ (x5_1 : Int) := of_decide_eq_true z_5
        have q279 : x5_1 < (l0.length : Int) := of_decide_eq_true z_5
        obtain ⟨ad279, e279, hx279_0⟩ := Kd.at_string HR0.out x5_1 p279 q279
        cases e279
        replace p279 := eq_true p279
        replace q279 := eq_true q279
        have p280 : 0 ≤ (x5_1 : Int) := of_decide_eq_true z_5
        have q280 : x5_1 < (l1.length : Int) := of_decide_eq_true z_5
        obtain ⟨ad280, e280, hx280_0⟩ := Kd.at_string HR1.out x5_1 p280 q280
        cases e280
        replace p280 := eq_true p280
        replace q280 := eq_true q280
        go_wp2
        repeat (go_quiet (fail); try go_wp2)
        go_ret
        exact ⟨z_1, z_2⟩
      ·rw [if_neg c6] at H
       exact absurd H (by simp)
     ·rw [if_neg c5] at H
      exact absurd H (by simp)
    ·rw [if_neg c4] at H
     have c4b0 : decide (x5_1 < (l0.length : Int)) = false := decide_eq_false c4
     clear c4
     obtain rfl := Option.some.inj H
     go_wp2
     repeat (go_quiet (fail); try go_wp2)
     go_ret
     exact ⟨z_1, z_2⟩
 ·rw [if_neg c3] at H
  have c3b0 : ((l0.length : Int) == (l1.length : Int)) = false := beq_eq_false_iff_ne.mpr c3
  have c3b1 : ((l0.length : Int) != (l1.length : Int)) = true := bne_iff_ne.mpr c3
  have c3b2 : (l0.length == l1.length) = false := by first | simpa using c3 | (simp at c3 ⊢; omega)
  obtain rfl := Option.some.inj H
  go_enter Try.func8, Try.ntmps8
  go_wp2
  repeat (go_quiet (fail); try go_wp2)
  go_ret
  exact ⟨z_1, z_2⟩
def laws_spans.l0 : Nat → List (S38) → List ByteArray → Int → Option (List ByteArray)
 | 0, _, _, _ => none
 | k + 1, x0, x3, x4 => if x4 < (x0.length : Int) then (if 0 ≤ x4 then (if x3.length < 8796093022208 then (laws_spans.l0 k x0 (x3 ++ [(rd_T38 x0 x4).f0]) (wrap64 (x4 + 1))) else (none)) else (none)) else (some x3)
def laws_spans.f (k : Nat) (l0 : List (S38)) : Option (List ByteArray) := laws_spans.l0 k l0 (([] : List ByteArray)) 0
theorem laws_spans.mono_l : ∀ k, (∀ y0 y1 y2, LeO (laws_spans.l0 k y0 y1 y2) (laws_spans.l0 (k + 1) y0 y1 y2))
 | 0 => fun _ _ _ r h => by simp [laws_spans.l0] at h
 | k + 1 => by
  have ih0 := laws_spans.mono_l k
  ·intro y0 y1 y2
   unfold laws_spans.l0
   repeat' first
   | (with_reducible exact ih0 _ _ _)
   | (with_reducible exact LeO.refl _)
   | (with_reducible exact LeO.none _)
   | (with_reducible refine LeO.ite ?_ ?_)
   | (with_reducible refine LeO.bind ?_ (fun _ => ?_))
   | exact ih0 _ _ _
   | exact LeO.none _
   | refine LeO.ite ?_ ?_
   | refine LeO.bind ?_ (fun _ => ?_)
theorem laws_spans.mono : ∀ a0 k, LeO (laws_spans.f k a0) (laws_spans.f (k + 1) a0) := by
 intro a0 k
 have ih0 := laws_spans.mono_l k
 unfold laws_spans.f
 repeat' first
  | (with_reducible exact ih0 _ _ _)
  | (with_reducible exact LeO.refl _)
  | (with_reducible exact LeO.none _)
  | (with_reducible refine LeO.ite ?_ ?_)
  | (with_reducible refine LeO.bind ?_ (fun _ => ?_))
  | exact ih0 _ _ _
  | exact LeO.none _
  | refine LeO.ite ?_ ?_
  | refine LeO.bind ?_ (fun _ => ?_)
set_option maxHeartbeats 8000000 in
set_option maxRecDepth 100000 in
theorem laws_spans.calls (k : Nat) (A0 : Option Addr) (c0 : Nat) (l0 : List (S38)) (r : List ByteArray) (w : World) (hr0 : Kd.C k38 w A0 l0.length l0) (hc0 : l0.length ≤ c0) (h : laws_spans.f k l0 = some r) :
 Calls Try.prog 9 #[.slice A0 l0.length c0] w fun e w' => ∃ v0_ : Value, e = .returned (v0_) ∧ Kd.R Kd.string 9 w' w.heap.size (fun _ => True) v0_ r ∧ Below w.heap.size w w' := by
 have HR0 := Aside0.mk hr0
 have HC0 := Aside0.mk hc0
 clear hr0 hc0
 have HB := Aside0.mk (Below.refl w.heap.size w)
 have H : (laws_spans.l0 k l0 (([] : List ByteArray)) 0) = some r := h
 clear h
 obtain ⟨y281, hy281⟩ : ∃ y_ : List ByteArray, y_ = (([] : List ByteArray)) := ⟨_, rfl⟩
 replace H : (laws_spans.l0 k l0 y281 0) = some r := by first | (rw [hy281]; with_reducible exact H) | (have H2_ := (Option.bind_some _ _).symm.trans H; rw [hy281]; with_reducible exact H2_) | (have H2_ := (Option.bind_some _ _).symm.trans H; with_reducible exact H2_) | with_reducible exact H | (rw [hy281]; exact H) | exact H
 have Ny281 := Aside0.mk hy281
 clear hy281
 have H' := Aside0.mk H
 clear H
 go_enter Try.func9, Try.ntmps9
 go_wp2_with (first | ((with_reducible refine gate_dst (N := 5) rfl ?_); refine Kd.R_lit Kd.string _ 9 ?hg (N := 5) ?hd (xs := ([] : List ByteArray)) (inner := []) (ok := fun _ => True) (okp := fun _ => True) ?hr ?hp (fun _ hk => hk) trivial (Below.refl _ _) (Nat.le_refl _) (by simp) ?_; (case hd => rfl); (case hg => rfl); (case hr => first | (go_simp; done) | (go_simp; rfl)); (case hp => exact (Reps.none _ _)); intro v282 w2 ho3 hb hg_ hnew_; clear hg_ hnew_; (first | rw [← Ny281.out] at ho3 | (simp only [Int.reduceToNat] at ho3; rw [← Ny281.out] at ho3)); have n0_ := Aside0.mk (Kd.R_lower ho3 (below_size (z_4 HB.out))); have n1_ := Aside0.mk (below_step (z_4 HB.out) hb); clear HB; have HO283 := n0_; have HB := n1_; clear n0_ n1_; clear hb ho3))
 go_loopg [3, 4] k (fun kq v3 v4 w' => ∃ (x3_1 : List ByteArray) (x4_1 : Int), v4 = .int .i64 x4_1 ∧ Aside0 (laws_spans.l0 kq l0 x3_1 x4_1 = some r) ∧ Aside0 (kq ≤ k) ∧ Aside0 (Kd.R Kd.string 9 w' w.heap.size (fun _ => True) v3 x3_1) ∧ Aside0 (Below w.heap.size w w'))
 case atStart => exact ⟨(y281), (0), z_3, H', ⟨Nat.le_refl _⟩, ⟨z_17 HO283.out⟩, ⟨z_4 HB.out⟩⟩
 case round =>
  clear H'
  try clear p2
  obtain ⟨x3_1, x4_1, rfl, HA, HK1, HO_3, HB⟩ := hrel
  cases gk with
  | zero => exact absurd HA.out (by simp [laws_spans.l0])
  | succ k1 =>
   have H := HA.out
   clear HA
   simp only [laws_spans.l0] at H
   by_cases c4 : x4_1 < (l0.length : Int)
   ·rw [if_pos c4] at H
    have c4b0 : decide (x4_1 < (l0.length : Int)) = true := decide_eq_true c4
    clear c4
    by_cases c5 : 0 ≤ x4_1
    ·rw [if_pos c5] at H
     have c5b0 : decide (0 ≤ x4_1) = true := decide_eq_true c5
     clear c5
     by_cases c6 : x3_1.length < 8796093022208
     ·rw [if_pos c6] at H
      have LMc6 := Aside0.mk c6
      clear c6
      obtain ⟨y285, hy285⟩ : ∃ y_ : List ByteArray, y_ = (x3_1 ++ [(rd_T38 l0 x4_1).f0]) := ⟨_, rfl⟩
      replace H : (laws_spans.l0 k1 l0 y285 (wrap64 (x4_1 + 1))) = some r := by first | (rw [hy285]; with_reducible exact H) | (have H2_ := (Option.bind_some _ _).symm.trans H; rw [hy285]; with_reducible exact H2_) | (have H2_ := (Option.bind_some _ _).symm.trans H; with_reducible exact H2_) | with_reducible exact H | (rw [hy285]; exact H) | exact H
      have Ny285 := Aside0.mk hy285
      clear hy285
      have H' := Aside0.mk H
      clear H
      have p284 : 0 ≤ (x4_1 : Int) := of_decide_eq_true z_5
      have q284 : x4_1 < (l0.length : Int) := of_decide_eq_true z_5
      obtain ⟨ad284, e284, hx284_0, hx284_1, hx284_2⟩ := at_T38 HR0.out x4_1 p284 q284
      cases e284
      replace hx284_0 := (HB.out.cell (World.block_lt_of_cell? w _ hx284_0)).trans hx284_0
      replace hx284_1 := (HB.out.cell (World.block_lt_of_cell? w _ hx284_1)).trans hx284_1
      replace hx284_2 := (HB.out.cell (World.block_lt_of_cell? w _ hx284_2)).trans hx284_2
      replace p284 := eq_true p284
      replace q284 := eq_true q284
      go_wp2_with (first | ((with_reducible refine gate_builtin (b := .append) (xs := #[.tmp 12, .tmp 18]) rfl ?_); at_builtin; refine Kd.R_append Kd.string (w0 := w) w.heap.size rfl (.tmp 12) (.tmp 18) 24 9 (.string ⟨#[]⟩) 16 rfl Try.underlying24 info9 rfl (by decide) (by omega) u3 x3_1 ((rd_T38 l0 x4_1).f0) [.string ((rd_T38 l0 x4_1).f0)] (fun _ => True) (fun _ => False) rfl rfl ?aP (fun _ hk => hk.elim) ?aF ?aO ?aB ?aS ?aL ?_; (case aP => exact rfl); (case aB => exact z_4 HB.out); (case aF => exact (fun _ _ => trivial)); (case aO => exact z_17 HO_3.out); (case aS => exact (below_size (z_4 HB.out))); (case aL => have := LMc6.out; omega); intro v286 w7 ho hb hg hat; rw [← Ny285.out] at ho; have n0_ := Aside0.mk (hb); have n1_ := Aside0.mk (ho); clear HB; clear HO_3; have HB := n0_; have HO287 := n1_; clear n0_ n1_; clear ho hb hg hat))
      go_roundg k1
      case measure => have := HK1.out; omega
      case rel => exact ⟨(y285), (wrap64 (x4_1 + 1)), z_3, H', ⟨by have := HK1.out; omega⟩, ⟨z_17 HO287.out⟩, ⟨z_4 HB.out⟩⟩
     ·rw [if_neg c6] at H
      exact absurd H (by simp)
    ·rw [if_neg c5] at H
     exact absurd H (by simp)
   ·rw [if_neg c4] at H
    have c4b0 : decide (x4_1 < (l0.length : Int)) = false := decide_eq_false c4
    clear c4
    obtain rfl := Option.some.inj H
    go_wp2
    go_ret
    exact ⟨_, z_9, z_17 HO_3.out, z_4 HB.out⟩
end Go.Proofs.Ytdphpmejjlgpnaa.PFnLaidOver
