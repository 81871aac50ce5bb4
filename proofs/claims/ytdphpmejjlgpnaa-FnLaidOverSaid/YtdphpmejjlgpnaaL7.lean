import Derived.Test.YtdphpmejjlgpnaaL0
import Derived.Test.YtdphpmejjlgpnaaL3
import Derived.Test.YtdphpmejjlgpnaaL5
import Derived.Test.YtdphpmejjlgpnaaLZ
namespace Go.Proofs.Ytdphpmejjlgpnaa.PFnLaidOver
open Go.RowKit Go.Proofs.YtdphpmejjlgpnaaW.PrintWords Go.Proofs.YtdphpmejjlgpnaaW.PrintLast Go.Proofs.YtdphpmejjlgpnaaW.PrintMore
attribute [local go_sem] max2_int min2_int max_two min_two max_three min_three max_four min_four
mutual
def impl_sizesOf.l0 : Nat → List Int → List (S27) → Int → Int → Option (List Int)
 | 0, _, _, _, _ => none
 | k + 1, x3, x8, x9, x10 => if x10 < x9 then (if 0 ≤ x10 then (if x10 < (x8.length : Int) then ((impl_sizesOf.f k ((rd_T27 x8 x10).f0) ((rd_T27 x8 x10).f1) ((rd_T27 x8 x10).f2)).bind fun t294 => (if x3.length + t294.length < 17592186044416 then (impl_sizesOf.l0 k (x3 ++ t294) x8 x9 (wrap64 (x10 + 1))) else (none))) else (none)) else (none)) else (if 0 < (x3.length : Int) then (some (x3.set (0 : Int).toNat (x3.length : Int))) else (none))
def impl_sizesOf.f : Nat → ByteArray → List ByteArray → List (S27) → Option (List Int)
 | 0, _, _, _ => none
 | k + 1, a0_0, l0_1, l0_2 => impl_sizesOf.l0 k (([0] : List Int)) l0_2 (l0_2.length : Int) 0
end
theorem impl_sizesOf.mono_l : ∀ k, (∀ y0 y1 y2, LeO (impl_sizesOf.f k y0 y1 y2) (impl_sizesOf.f (k + 1) y0 y1 y2)) ∧ (∀ y0 y1 y2 y3, LeO (impl_sizesOf.l0 k y0 y1 y2 y3) (impl_sizesOf.l0 (k + 1) y0 y1 y2 y3))
 | 0 => ⟨fun _ _ _ r h => by simp [impl_sizesOf.f] at h, fun _ _ _ _ r h => by simp [impl_sizesOf.l0] at h⟩
 | k + 1 => by
  obtain ⟨ih0, ih1⟩ := impl_sizesOf.mono_l k
  refine ⟨?_, ?_⟩
  ·intro y0 y1 y2
   unfold impl_sizesOf.f
   repeat' first
   | (with_reducible exact ih0 _ _ _)
   | (with_reducible exact ih1 _ _ _ _)
   | (with_reducible exact LeO.refl _)
   | (with_reducible exact LeO.none _)
   | (with_reducible refine LeO.ite ?_ ?_)
   | (with_reducible refine LeO.bind ?_ (fun _ => ?_))
   | exact ih0 _ _ _
   | exact ih1 _ _ _ _
   | exact LeO.none _
   | refine LeO.ite ?_ ?_
   | refine LeO.bind ?_ (fun _ => ?_)
  ·intro y0 y1 y2 y3
   unfold impl_sizesOf.l0
   repeat' first
   | (with_reducible exact ih0 _ _ _)
   | (with_reducible exact ih1 _ _ _ _)
   | (with_reducible exact LeO.refl _)
   | (with_reducible exact LeO.none _)
   | (with_reducible refine LeO.ite ?_ ?_)
   | (with_reducible refine LeO.bind ?_ (fun _ => ?_))
   | exact ih0 _ _ _
   | exact ih1 _ _ _ _
   | exact LeO.none _
   | refine LeO.ite ?_ ?_
   | refine LeO.bind ?_ (fun _ => ?_)
theorem impl_sizesOf.mono : ∀ a0 a1 a2 k, LeO (impl_sizesOf.f k a0 a1 a2) (impl_sizesOf.f (k + 1) a0 a1 a2) := by
 intro a0 a1 a2 k
 obtain ⟨ih0, ih1⟩ := impl_sizesOf.mono_l k
 exact ih0 a0 a1 a2
set_option maxHeartbeats 8000000 in
set_option maxRecDepth 100000 in
theorem impl_sizesOf.calls (k : Nat) : ∀ (a0_0 : ByteArray) (A0_1 : Option Addr) (c0_1 : Nat) (l0_1 : List ByteArray) (A0_2 : Option Addr) (c0_2 : Nat) (l0_2 : List (S27)) (r : List Int) (w : World) (hr0_1 : Kd.C Kd.string w A0_1 l0_1.length l0_1) (hc0_1 : l0_1.length ≤ c0_1) (hr0_2 : Kd.C k27 w A0_2 l0_2.length l0_2) (hc0_2 : l0_2.length ≤ c0_2) (h : impl_sizesOf.f k a0_0 l0_1 l0_2 = some r),
 Calls Try.prog 31 #[.agg #[.string a0_0, .slice A0_1 l0_1.length c0_1, .slice A0_2 l0_2.length c0_2]] w fun e w' => ∃ v0_ : Value, e = .returned (v0_) ∧ Kd.R (Kd.int .i64) 3 w' w.heap.size (fun _ => True) v0_ r ∧ Below w.heap.size w w' := by
 induction k using Nat.strongRecOn with
 | _ k ih =>
 intro a0_0 A0_1 c0_1 l0_1 A0_2 c0_2 l0_2 r w hr0_1 hc0_1 hr0_2 hc0_2 h
 cases k with
 | zero => exact absurd h (by simp [impl_sizesOf.f])
 | succ k =>
 simp only [impl_sizesOf.f] at h
 have hu27 := Try.underlying27
 have HR0_1 := Aside0.mk hr0_1
 have HC0_1 := Aside0.mk hc0_1
 clear hr0_1 hc0_1
 have HR0_2 := Aside0.mk hr0_2
 have HC0_2 := Aside0.mk hc0_2
 clear hr0_2 hc0_2
 have HB := Aside0.mk (Below.refl w.heap.size w)
 have H : (impl_sizesOf.l0 k (([0] : List Int)) l0_2 (l0_2.length : Int) 0) = some r := h
 clear h
 obtain ⟨y289, hy289⟩ : ∃ y_ : List Int, y_ = (([0] : List Int)) := ⟨_, rfl⟩
 replace H : (impl_sizesOf.l0 k y289 l0_2 (l0_2.length : Int) 0) = some r := by first | (rw [hy289]; with_reducible exact H) | (have H2_ := (Option.bind_some _ _).symm.trans H; rw [hy289]; with_reducible exact H2_) | (have H2_ := (Option.bind_some _ _).symm.trans H; with_reducible exact H2_) | with_reducible exact H | (rw [hy289]; exact H) | exact H
 have Ny289 := Aside0.mk hy289
 clear hy289
 have H' := Aside0.mk H
 clear H
 go_enter Try.func31, Try.ntmps31
 go_wp2_with (first | ((with_reducible refine gate_dst (N := 1) rfl ?_); refine box_event ?hg (N := 1) ?hd (cs := #[.string a0_0, .slice A0_1 l0_1.length c0_1, .slice A0_2 l0_2.length c0_2]) (t := 27) ?hr ?_; (case hd => rfl); (case hg => rfl); (case hr => first | (go_simp; done) | (go_simp; rfl)); intro gb288 hg w2 hbox hb; have n0_ := Aside0.mk (below_step (z_4 HB.out) hb); have n1_ := Aside0.mk (hbox); have n2_ := Aside0.mk ((z_6 HB.out : w.heap.size ≤ gb288)); have n3_ := Aside0.mk ((z_6 HB.out : w.heap.size ≤ gb288)); clear HB; have HB := n0_; have BK288 := n1_; have GW288 := n2_; have GE288 := n3_; clear n0_ n1_ n2_ n3_; clear hb hbox hg) | ((with_reducible refine gate_dst (N := 6) rfl ?_); refine Kd.R_lit (Kd.int .i64) _ 3 ?hg (N := 6) ?hd (xs := ([0] : List Int)) (inner := [.int .i64 0]) (ok := fun _ => True) (okp := fun _ => True) ?hr ?hp (fun _ hk => hk) trivial (Below.refl _ _) (Nat.le_refl _) (by simp) ?_; (case hd => rfl); (case hg => rfl); (case hr => first | (go_simp; done) | (go_simp; rfl)); (case hp => exact (Reps.one (show Kd.M (Kd.int .i64) _ _ _ 0 [.int .i64 0] from rfl) (Reps.none _ _))); intro v290 w3 ho4 hb hg_ hnew_; clear hg_ hnew_; (first | rw [← Ny289.out] at ho4 | (simp only [Int.reduceToNat] at ho4; rw [← Ny289.out] at ho4)); have n0_ := Aside0.mk (Kd.R_lower ho4 (below_size (z_8 HB.out GE288.out))); have n1_ := Aside0.mk (blk_below (g := gb288) (o := .cells #[.string a0_0, .slice A0_1 l0_1.length c0_1, .slice A0_2 l0_2.length c0_2] 27 (0, 0)) (z_7 BK288.out) hb); have n2_ := Aside0.mk (below_step (z_8 HB.out GE288.out) hb); clear BK288; clear HB; have HO291 := n0_; have BK288 := n1_; have HB := n2_; clear n0_ n1_ n2_; clear hb ho4; have hcz5_0 : w3.cell? ⟨gb288, 0, none⟩ = some (.string a0_0) := (blk_cell BK288.out 0).trans rfl; have hcz5_1 : w3.cell? ⟨gb288, 1, none⟩ = some (.slice A0_1 l0_1.length c0_1) := (blk_cell BK288.out 1).trans rfl; have hcz5_2 : w3.cell? ⟨gb288, 2, none⟩ = some (.slice A0_2 l0_2.length c0_2) := (blk_cell BK288.out 2).trans rfl; have hfz5_0 := blk_frozen BK288.out 0; have hfz5_1 := blk_frozen BK288.out 1; have hfz5_2 := blk_frozen BK288.out 2))
 go_loopg [3, 10] k (fun kq v3 v10 w' => ∃ (x3_1 : List Int) (x10_1 : Int), v10 = .int .i64 x10_1 ∧ Aside0 (impl_sizesOf.l0 kq x3_1 l0_2 (l0_2.length : Int) x10_1 = some r) ∧ Aside0 (kq ≤ k) ∧ Aside0 (Kd.R (Kd.int .i64) 3 w' w.heap.size (fun _ => True) v3 x3_1) ∧ Aside0 (w'.heap[gb288]? = some (.cells #[.string a0_0, (.slice A0_1 l0_1.length c0_1), (.slice A0_2 l0_2.length c0_2)] 27 (0, 0))) ∧ Aside0 (Below w.heap.size w w'))
 case atStart => exact ⟨(y289), (0), z_3, H', ⟨Nat.le_refl _⟩, ⟨z_17 HO291.out⟩, ⟨z_7 BK288.out⟩, ⟨z_8 HB.out GE288.out⟩⟩
 case round =>
  clear H'
  try clear p2
  try clear c3
  try clear hcz5_0
  try clear hcz5_1
  try clear hcz5_2
  try clear hfz5_0
  try clear hfz5_1
  try clear hfz5_2
  obtain ⟨x3_1, x10_1, rfl, HA, HK1, HO_3, BK288, HB⟩ := hrel
  cases gk with
  | zero => exact absurd HA.out (by simp [impl_sizesOf.l0])
  | succ k1 =>
   have H := HA.out
   clear HA
   simp only [impl_sizesOf.l0] at H
   by_cases c6 : x10_1 < (l0_2.length : Int)
   ·rw [if_pos c6] at H
    have c6b0 : decide (x10_1 < (l0_2.length : Int)) = true := decide_eq_true c6
    clear c6
    by_cases c7 : 0 ≤ x10_1
    ·rw [if_pos c7] at H
     have c7b0 : decide (0 ≤ x10_1) = true := decide_eq_true c7
     clear c7
     by_cases c8 : x10_1 < (l0_2.length : Int)
     ·rw [if_pos c8] at H
      have c8b0 : decide (x10_1 < (l0_2.length : Int)) = true := decide_eq_true c8
      clear c8
      replace H := Option.bind_eq_some_iff.mp H
      obtain ⟨t294, A90, H⟩ := H
      replace H : (if x3_1.length + t294.length < 17592186044416 then (impl_sizesOf.l0 k1 (x3_1 ++ t294) l0_2 (l0_2.length : Int) (wrap64 (x10_1 + 1))) else (none)) = some r := H
      have A9 := Aside0.mk A90
      clear A90
      by_cases c10 : x3_1.length + t294.length < 17592186044416
      ·rw [if_pos c10] at H
       have LMc10 := Aside0.mk c10
       clear c10
       obtain ⟨y297, hy297⟩ : ∃ y_ : List Int, y_ = (x3_1 ++ t294) := ⟨_, rfl⟩
       replace H : (impl_sizesOf.l0 k1 y297 l0_2 (l0_2.length : Int) (wrap64 (x10_1 + 1))) = some r := by first | (rw [hy297]; with_reducible exact H) | (have H2_ := (Option.bind_some _ _).symm.trans H; rw [hy297]; with_reducible exact H2_) | (have H2_ := (Option.bind_some _ _).symm.trans H; with_reducible exact H2_) | with_reducible exact H | (rw [hy297]; exact H) | exact H
       have Ny297 := Aside0.mk hy297
       clear hy297
       have H' := Aside0.mk H
       clear H
       have p292 : 0 ≤ (x10_1 : Int) := of_decide_eq_true z_5
       have q292 : x10_1 < (l0_2.length : Int) := of_decide_eq_true z_5
       obtain ⟨ad292, A292_1, c292_1, A292_2, c292_2, e292, hx292_0, hx292_1, hx292_2, hl292_1, hi292_1, hl292_2, hi292_2⟩ := at_T27 HR0_2.out x10_1 p292 q292
       cases e292
       replace hx292_0 := (HB.out.cell (World.block_lt_of_cell? w _ hx292_0)).trans hx292_0
       replace hx292_1 := (HB.out.cell (World.block_lt_of_cell? w _ hx292_1)).trans hx292_1
       replace hx292_2 := (HB.out.cell (World.block_lt_of_cell? w _ hx292_2)).trans hx292_2
       have HR292_1 := Aside0.mk hi292_1
       have HC292_1 := Aside0.mk hl292_1
       clear hi292_1 hl292_1
       have HR292_2 := Aside0.mk hi292_2
       have HC292_2 := Aside0.mk hl292_2
       clear hi292_2 hl292_2
       replace p292 := eq_true p292
       replace q292 := eq_true q292
       go_wp2_with (first | ((with_reducible refine gate_dst (N := 5) rfl ?_); refine box_event ?hg (N := 5) ?hd (cs := #[.string (⟨#[]⟩ : ByteArray), .slice none 0 0, .slice none 0 0]) (t := 27) ?hr ?_; (case hd => rfl); (case hg => rfl); (case hr => first | (go_simp; done) | (go_simp; rfl)); intro gb293 hg w11 hbox hb; have n0_ := Aside0.mk (Kd.R_below (z_17 HO_3.out) hb); have n1_ := Aside0.mk (blk_below (g := gb288) (o := .cells #[.string a0_0, .slice A0_1 l0_1.length c0_1, .slice (some ad292) l0_2.length c0_2] 27 (0, 0)) (z_7 BK288.out) hb); have n2_ := Aside0.mk (below_step (z_8 HB.out GE288.out) hb); have n3_ := Aside0.mk (hbox); have n4_ := Aside0.mk ((z_54 HB.out GE288.out : w.heap.size ≤ gb293)); have n5_ := Aside0.mk ((z_54 HB.out GE288.out : w.heap.size ≤ gb293)); have n6_ := Aside0.mk ((by rw [hg]; exact Nat.ne_of_lt (blk_lt (g := gb288) (o := .cells #[.string a0_0, .slice A0_1 l0_1.length c0_1, .slice (some ad292) l0_2.length c0_2] 27 (0, 0)) (z_7 BK288.out)) : gb288 ≠ gb293)); have n7_ := Aside0.mk ((by rw [hg]; exact Nat.ne_of_gt (blk_lt (g := gb288) (o := .cells #[.string a0_0, .slice A0_1 l0_1.length c0_1, .slice (some ad292) l0_2.length c0_2] 27 (0, 0)) (z_7 BK288.out)) : gb293 ≠ gb288)); clear HO_3; clear BK288; clear HB; have HO_3 := n0_; have BK288 := n1_; have HB := n2_; have BK293 := n3_; have GW293 := n4_; have GE293 := n5_; have NB288_293 := n6_; have NB293_288 := n7_; clear n0_ n1_ n2_ n3_ n4_ n5_ n6_ n7_; clear hb hbox hg; have hnb12 := NB293_288.out; have hnc12 := NB288_293.out; have hcz13_0 : w11.cell? ⟨gb293, 0, none⟩ = some (.string (⟨#[]⟩ : ByteArray)) := (blk_cell BK293.out 0).trans rfl; have hcz13_1 : w11.cell? ⟨gb293, 1, none⟩ = some (.slice none 0 0) := (blk_cell BK293.out 1).trans rfl; have hcz13_2 : w11.cell? ⟨gb293, 2, none⟩ = some (.slice none 0 0) := (blk_cell BK293.out 2).trans rfl; have hfz13_0 := blk_frozen BK293.out 0; have hfz13_1 := blk_frozen BK293.out 1; have hfz13_2 := blk_frozen BK293.out 2) | ((with_reducible refine gate_callee (f := 31) rfl ?_); refine gl_ 16 Try.func31 #[.agg #[.string ((rd_T27 l0_2 x10_1).f0), .slice A292_1 ((rd_T27 l0_2 x10_1).f1).length c292_1, .slice A292_2 ((rd_T27 l0_2 x10_1).f2).length c292_2]] ?_; (with_reducible refine (ih k1 (by have := HK1.out; omega) ((rd_T27 l0_2 x10_1).f0) _ _ ((rd_T27 l0_2 x10_1).f1) _ _ ((rd_T27 l0_2 x10_1).f2) t294 _ ?side1 ?side2 ?side3 ?side4 A9.out).mono ?_); (case side1 => exact Kd.C_below HR292_1.out (z_55 HB.out GE288.out GE293.out)); (case side2 => exact HC292_1.out); (case side3 => exact Kd.C_below HR292_2.out (z_55 HB.out GE288.out GE293.out)); (case side4 => exact HC292_2.out); rintro e w14 ⟨v295, rfl, ho0, hb⟩; refine ⟨_, rfl, ?_⟩; have n0_ := Aside0.mk (Kd.R_elder' (z_68 HO_3.out BK293.out) (Kd.R_base ho0) hb); have n1_ := Aside0.mk (Kd.R_lower (Kd.R_new' ho0 (Kd.R_lt (z_68 HO_3.out BK293.out))) (below_size (z_55 HB.out GE288.out GE293.out))); have n2_ := Aside0.mk (blk_below (g := gb288) (o := .cells #[.string a0_0, .slice A0_1 l0_1.length c0_1, .slice (some ad292) l0_2.length c0_2] 27 (0, 0)) (z_22 NB288_293.out BK288.out) hb); have n3_ := Aside0.mk (blk_below (g := gb293) (o := .cells #[.string ((rd_T27 l0_2 x10_1).f0), .slice A292_1 ((rd_T27 l0_2 x10_1).f1).length c292_1, .slice A292_2 ((rd_T27 l0_2 x10_1).f2).length c292_2] 27 (0, 0)) (by (with_reducible repeat (first | refine blk_drewN ?_ _ | refine blk_drew ?_ | refine blk_alloc ?_ _)); refine blk_put (cs := #[.string ((rd_T27 l0_2 x10_1).f0), .slice A292_1 ((rd_T27 l0_2 x10_1).f1).length c292_1, .slice none 0 0]) ?_ 2 _ rfl; (with_reducible repeat (first | refine blk_drewN ?_ _ | refine blk_drew ?_ | refine blk_alloc ?_ _)); refine blk_put (cs := #[.string ((rd_T27 l0_2 x10_1).f0), .slice none 0 0, .slice none 0 0]) ?_ 1 _ rfl; (with_reducible repeat (first | refine blk_drewN ?_ _ | refine blk_drew ?_ | refine blk_alloc ?_ _)); refine blk_put (cs := #[.string (⟨#[]⟩ : ByteArray), .slice none 0 0, .slice none 0 0]) ?_ 0 _ rfl; (with_reducible repeat (first | refine blk_drewN ?_ _ | refine blk_drew ?_ | refine blk_alloc ?_ _)); exact BK293.out) hb); have n4_ := Aside0.mk (below_step (z_55 HB.out GE288.out GE293.out) hb); clear HO_3; clear BK288; clear BK293; clear HB; have HO_3 := n0_; have HO296 := n1_; have BK288 := n2_; have BK293 := n3_; have HB := n4_; clear n0_ n1_ n2_ n3_ n4_; (try clear hb); (try clear hb2); (try clear hk); (try clear hi); (try clear ho0); obtain ⟨Ao16, co16, eo16⟩ := Kd.R_slice HO296.out; subst eo16) | ((with_reducible refine gate_builtin (b := .append) (xs := #[.tmp 14, .tmp 16]) rfl ?_); at_builtin; refine Kd.R_append_rows (Kd.int .i64) (w0 := w) w.heap.size rfl (.tmp 14) (.tmp 16) 28 3 (.int .i64 0) 8 rfl Try.underlying28 info3 rfl (by decide) (by omega) u3 x3_1 t294 _ _ _ (fun k_ => some k_ ≠ (.slice Ao16 t294.length co16 : Value).ownBlock) (fun _ => False) rfl rfl ?aO ?aR (fun _ _ h => h) (fun _ h => h.elim) ?aF ?aB ?aS ?aL ?_; (case aR => exact z_47 HO296.out); (case aB => exact z_55 HB.out GE288.out GE293.out); (case aF => exact (fun k_ hk => Kd.fresh' (Kd.R_lt (z_17 HO296.out)) k_ hk)); (case aO => exact z_48 HO_3.out); (case aS => exact (below_size (z_55 HB.out GE288.out GE293.out))); (case aL => have := LMc10.out; omega); intro v298 w15 ho hb hg hat; rw [← Ny297.out] at ho; have n0_ := Aside0.mk (blk_grown (g := gb288) (o := .cells #[.string a0_0, .slice A0_1 l0_1.length c0_1, .slice (some ad292) l0_2.length c0_2] 27 (0, 0)) (z_7 BK288.out) hg (Kd.R_ne HO_3.out BK288.out (by decide))); have n1_ := Aside0.mk (blk_grown (g := gb293) (o := .cells #[.string ((rd_T27 l0_2 x10_1).f0), .slice A292_1 ((rd_T27 l0_2 x10_1).f1).length c292_1, .slice A292_2 ((rd_T27 l0_2 x10_1).f2).length c292_2] 27 (0, 0)) (z_7 BK293.out) hg (Kd.R_ne HO_3.out BK293.out (by decide))); have n2_ := Aside0.mk (Kd.R_after (ok := (fun _ => True)) (z_17 HO296.out) hg hat); have n3_ := Aside0.mk (hb); have n4_ := Aside0.mk (ho); clear BK288; clear BK293; clear HO296; clear HB; clear HO_3; have BK288 := n0_; have BK293 := n1_; have HO296 := n2_; have HB := n3_; have HO299 := n4_; clear n0_ n1_ n2_ n3_ n4_; clear ho hb hg hat))
       go_roundg k1
       case measure => have := HK1.out; omega
       case rel => exact ⟨(y297), (wrap64 (x10_1 + 1)), z_3, H', ⟨by have := HK1.out; omega⟩, ⟨z_49 HO299.out⟩, ⟨z_7 BK288.out⟩, ⟨z_55 HB.out GE288.out GE293.out⟩⟩
      ·rw [if_neg c10] at H
       exact absurd H (by simp)
     ·rw [if_neg c8] at H
      exact absurd H (by simp)
    ·rw [if_neg c7] at H
     exact absurd H (by simp)
   ·rw [if_neg c6] at H
    have c6b0 : decide (x10_1 < (l0_2.length : Int)) = false := decide_eq_false c6
    clear c6
    by_cases c17 : 0 < (x3_1.length : Int)
    ·rw [if_pos c17] at H
     have c17b0 : decide (0 < (x3_1.length : Int)) = true := decide_eq_true c17
     have c17b1 : decide (0 < x3_1.length) = true := decide_eq_true (by omega)
     clear c17
     obtain ⟨y300, hy300⟩ : ∃ y_ : List Int, y_ = (x3_1.set (0 : Int).toNat (x3_1.length : Int)) := ⟨_, rfl⟩
     replace H : (some y300) = some r := by first | (rw [hy300]; with_reducible exact H) | (have H2_ := (Option.bind_some _ _).symm.trans H; rw [hy300]; with_reducible exact H2_) | (have H2_ := (Option.bind_some _ _).symm.trans H; with_reducible exact H2_) | with_reducible exact H | (rw [hy300]; exact H) | exact H
     have Ny300 := Aside0.mk hy300
     clear hy300
     obtain rfl := Option.some.inj H
     obtain ⟨Ao19, co19, eo19⟩ := Kd.R_slice HO_3.out
     subst eo19
     have p18 : 0 ≤ (0 : Int) := (by omega)
     have q18 : (0 : Int) < ((x3_1.length : Int) : Int) := of_decide_eq_true z_5
     have qi18 : (0 < x3_1.length) = True := eq_true (by omega)
     obtain ⟨go18, co18, eo18, gb18, gl18, cl18, HG18⟩ := Kd.R_form HO_3.out (by omega)
     (first | cases eo18 | (injection eo18 with ea_ en_ ec_; (first | subst ea_ | (injection ea_ with ea_; subst ea_)); subst ec_; clear en_))
     have GB18 := Aside0.mk gb18
     have GG18 := Aside0.mk HG18
     clear gb18 gl18 HG18
     obtain ⟨hx18_0, hf18_0⟩ := Kd.R_celln 0 HO_3.out (0 : Int) p18 q18
     (try rw [show ((0 : Int)).toNat = 0 from rfl] at hx18_0)
     (try simp only [Nat.reduceMul, Nat.zero_mul, Nat.zero_add, Nat.reduceAdd] at hx18_0)
     (try rw [show ((0 : Int)).toNat = 0 from rfl] at hf18_0)
     (try simp only [Nat.reduceMul, Nat.zero_mul, Nat.zero_add, Nat.reduceAdd] at hf18_0)
     replace p18 := eq_true p18
     replace q18 := eq_true q18
     have HP20 := Kd.R_putg HO_3.out (0 : Int) (x3_1.length : Int)
     go_wp2_with (first | ((with_reducible refine gate_store (t := 3) (p := 22) rfl ?_); refine store_event (t := 3) (p := 22) (v := ?vo_w21) (w1 := (wr.setCell ⟨go18, (0 : Int).toNat, none⟩ (.int .i64 (x3_1.length : Int)))) ?hg ?ho ?hn ?hr ?_; (case ho => rfl); (case hg => rfl); (case hn => rfl); (case hr => first | (go_simp; done) | (go_simp; rfl)); intro w21 hw; have hg : wr.grownBy w21 (some go18) := (by rw [hw]; exact HP20.2); have hp_ : Kd.R (Kd.int .i64) 3 w21 w.heap.size (fun _ => True) (.slice (some ⟨go18, 0, none⟩) x3_1.length co19) y300 := (by rw [hw, Ny300.out]; exact HP20.1); clear HP20; have n0_ := Aside0.mk (hp_); have n1_ := Aside0.mk (blk_grown (g := gb288) (o := .cells #[.string a0_0, .slice A0_1 l0_1.length c0_1, .slice A0_2 l0_2.length c0_2] 27 (0, 0)) (z_7 BK288.out) hg (Kd.R_ne HO_3.out BK288.out (by decide))); have n2_ := Aside0.mk ((by rw [hw]; exact below_set (HB.out) GB18.out : Below w.heap.size w w21)); clear HO_3; clear BK288; clear HB; have HO_3 := n0_; have BK288 := n1_; have HB := n2_; clear n0_ n1_ n2_; clear hg hw hp_))
     go_ret
     exact ⟨_, z_9, z_17 HO_3.out, z_8 HB.out GE288.out⟩
    ·rw [if_neg c17] at H
     exact absurd H (by simp)
def impl_Above.j0 : Nat → List Int → Int → Int → Bool → Option (Bool)
 | 0, _, _, _, _ => none
 | k + 1, x8, x9, x10, x26 => if x26 = true then (some false) else (if 0 ≤ x9 then (if x9 < (x8.length : Int) then ((impl_within.f x10 x9 (wrap64 ((wrap64 (x9 + (rd x8 x9))) - 1))).bind fun t311 => (if t311 = true then (some true) else (if 0 ≤ x10 then (if x10 < (x8.length : Int) then ((impl_within.f x9 x10 (wrap64 ((wrap64 (x10 + (rd x8 x10))) - 1))).bind fun t313 => (some t313)) else (none)) else (none)))) else (none)) else (none))
def impl_Above.f (k : Nat) (a0_0 : ByteArray) (l0_1 : List ByteArray) (l0_2 : List (S27)) (a1 : ByteArray) (a2 : ByteArray) : Option (Bool) := (impl_Segs.f k a0_0 l0_1 l0_2).bind fun t302 => ((impl_sizesOf.f k a0_0 l0_1 l0_2).bind fun t305 => ((impl_placeIn.f k t302 a1).bind fun t308 => ((impl_placeIn.f k t302 a2).bind fun t309 => (if t308 < 0 then (impl_Above.j0 k t305 t308 t309 true) else (impl_Above.j0 k t305 t308 t309 (decide (t309 < 0)))))))
theorem impl_Above.mono_l : ∀ k, (∀ y0 y1 y2 y3, LeO (impl_Above.j0 k y0 y1 y2 y3) (impl_Above.j0 (k + 1) y0 y1 y2 y3))
 | 0 => fun _ _ _ _ r h => by simp [impl_Above.j0] at h
 | k + 1 => by
  have ih0 := impl_Above.mono_l k
  ·intro y0 y1 y2 y3
   unfold impl_Above.j0
   repeat' first
   | (with_reducible exact ih0 _ _ _ _)
   | (with_reducible exact impl_Segs.mono _ _ _ _)
   | (with_reducible exact impl_placeIn.mono _ _ _)
   | (with_reducible exact impl_sizesOf.mono _ _ _ _)
   | (with_reducible exact LeO.refl _)
   | (with_reducible exact LeO.none _)
   | (with_reducible refine LeO.ite ?_ ?_)
   | (with_reducible refine LeO.bind ?_ (fun _ => ?_))
   | exact ih0 _ _ _ _
   | exact impl_Segs.mono _ _ _ _
   | exact impl_placeIn.mono _ _ _
   | exact impl_sizesOf.mono _ _ _ _
   | exact LeO.none _
   | refine LeO.ite ?_ ?_
   | refine LeO.bind ?_ (fun _ => ?_)
theorem impl_Above.mono : ∀ a0 a1 a2 a3 a4 k, LeO (impl_Above.f k a0 a1 a2 a3 a4) (impl_Above.f (k + 1) a0 a1 a2 a3 a4) := by
 intro a0 a1 a2 a3 a4 k
 have ih0 := impl_Above.mono_l k
 unfold impl_Above.f
 repeat' first
  | (with_reducible exact ih0 _ _ _ _)
  | (with_reducible exact impl_Segs.mono _ _ _ _)
  | (with_reducible exact impl_placeIn.mono _ _ _)
  | (with_reducible exact impl_sizesOf.mono _ _ _ _)
  | (with_reducible exact LeO.refl _)
  | (with_reducible exact LeO.none _)
  | (with_reducible refine LeO.ite ?_ ?_)
  | (with_reducible refine LeO.bind ?_ (fun _ => ?_))
  | exact ih0 _ _ _ _
  | exact impl_Segs.mono _ _ _ _
  | exact impl_placeIn.mono _ _ _
  | exact impl_sizesOf.mono _ _ _ _
  | exact LeO.none _
  | refine LeO.ite ?_ ?_
  | refine LeO.bind ?_ (fun _ => ?_)
set_option maxHeartbeats 8000000 in
set_option maxRecDepth 100000 in
theorem impl_Above.calls (k : Nat) (a0_0 : ByteArray) (A0_1 : Option Addr) (c0_1 : Nat) (l0_1 : List ByteArray) (A0_2 : Option Addr) (c0_2 : Nat) (l0_2 : List (S27)) (a1 : ByteArray) (a2 : ByteArray) (r : Bool) (w : World) (hr0_1 : Kd.C Kd.string w A0_1 l0_1.length l0_1) (hc0_1 : l0_1.length ≤ c0_1) (hr0_2 : Kd.C k27 w A0_2 l0_2.length l0_2) (hc0_2 : l0_2.length ≤ c0_2) (h : impl_Above.f k a0_0 l0_1 l0_2 a1 a2 = some r) :
 Calls Try.prog 11 #[.agg #[.string a0_0, .slice A0_1 l0_1.length c0_1, .slice A0_2 l0_2.length c0_2], .string a1, .string a2] w fun e w' => e = .returned (.bool r) ∧ Below w.heap.size w w' := by
 have hu27 := Try.underlying27
 have HR0_1 := Aside0.mk hr0_1
 have HC0_1 := Aside0.mk hc0_1
 clear hr0_1 hc0_1
 have HR0_2 := Aside0.mk hr0_2
 have HC0_2 := Aside0.mk hc0_2
 clear hr0_2 hc0_2
 have HB := Aside0.mk (Below.refl w.heap.size w)
 have H : ((impl_Segs.f k a0_0 l0_1 l0_2).bind fun t302 => ((impl_sizesOf.f k a0_0 l0_1 l0_2).bind fun t305 => ((impl_placeIn.f k t302 a1).bind fun t308 => ((impl_placeIn.f k t302 a2).bind fun t309 => (if t308 < 0 then (impl_Above.j0 k t305 t308 t309 true) else (impl_Above.j0 k t305 t308 t309 (decide (t309 < 0)))))))) = some r := h
 clear h
 replace H := Option.bind_eq_some_iff.mp H
 obtain ⟨t302, A40, H⟩ := H
 replace H : ((impl_sizesOf.f k a0_0 l0_1 l0_2).bind fun t305 => ((impl_placeIn.f k t302 a1).bind fun t308 => ((impl_placeIn.f k t302 a2).bind fun t309 => (if t308 < 0 then (impl_Above.j0 k t305 t308 t309 true) else (impl_Above.j0 k t305 t308 t309 (decide (t309 < 0))))))) = some r := H
 have A4 := Aside0.mk A40
 clear A40
 replace H := Option.bind_eq_some_iff.mp H
 obtain ⟨t305, A50, H⟩ := H
 replace H : ((impl_placeIn.f k t302 a1).bind fun t308 => ((impl_placeIn.f k t302 a2).bind fun t309 => (if t308 < 0 then (impl_Above.j0 k t305 t308 t309 true) else (impl_Above.j0 k t305 t308 t309 (decide (t309 < 0)))))) = some r := H
 have A5 := Aside0.mk A50
 clear A50
 replace H := Option.bind_eq_some_iff.mp H
 obtain ⟨t308, A60, H⟩ := H
 replace H : ((impl_placeIn.f k t302 a2).bind fun t309 => (if t308 < 0 then (impl_Above.j0 k t305 t308 t309 true) else (impl_Above.j0 k t305 t308 t309 (decide (t309 < 0))))) = some r := H
 have A6 := Aside0.mk A60
 clear A60
 replace H := Option.bind_eq_some_iff.mp H
 obtain ⟨t309, A70, H⟩ := H
 replace H : (if t308 < 0 then (impl_Above.j0 k t305 t308 t309 true) else (impl_Above.j0 k t305 t308 t309 (decide (t309 < 0)))) = some r := H
 have A7 := Aside0.mk A70
 clear A70
 have HC8 := Aside0.mk H
 clear H
 go_enter Try.func11, Try.ntmps11
 try go_wp2_with (first | ((with_reducible refine gate_dst (N := 3) rfl ?_); refine box_event ?hg (N := 3) ?hd (cs := #[.string a0_0, .slice A0_1 l0_1.length c0_1, .slice A0_2 l0_2.length c0_2]) (t := 27) ?hr ?_; (case hd => rfl); (case hg => rfl); (case hr => first | (go_simp; done) | (go_simp; rfl)); intro gb301 hg w9 hbox hb; have n0_ := Aside0.mk (below_step (z_4 HB.out) hb); have n1_ := Aside0.mk (hbox); have n2_ := Aside0.mk ((z_6 HB.out : w.heap.size ≤ gb301)); have n3_ := Aside0.mk ((z_6 HB.out : w.heap.size ≤ gb301)); clear HB; have HB := n0_; have BK301 := n1_; have GW301 := n2_; have GE301 := n3_; clear n0_ n1_ n2_ n3_; clear hb hbox hg))
 have n0_ := Aside0.mk (blk_drew BK301.out)
 have n1_ := Aside0.mk (below_drew1 HB.out)
 clear BK301
 clear HB
 have BK301 := n0_
 have HB := n1_
 clear n0_ n1_
 refine st_ 6 (fun w' => w'.cell? ⟨gb301, 0, none⟩ = some (.string a0_0) ∧ w'.cell? ⟨gb301, 1, none⟩ = some (.slice A0_1 l0_1.length c0_1) ∧ w'.cell? ⟨gb301, 2, none⟩ = some (.slice A0_2 l0_2.length c0_2)) [] ⟨(blk_cell BK301.out 0).trans rfl, (blk_cell BK301.out 1).trans rfl, (blk_cell BK301.out 2).trans rfl⟩ (fun hHeld => ?_)
 generalize w9.drew = w10 at BK301 HB hHeld ⊢
 refine go_ ?_ [1000, 1002] ?_
 refine on_ 1 12 (fun K hK => ?_)
 refine gs_ Try.func10 #[.agg #[.string a0_0, .slice A0_1 l0_1.length c0_1, .slice A0_2 l0_2.length c0_2]] ?_
 with_reducible refine (impl_Segs.calls k a0_0 _ _ l0_1 _ _ l0_2 t302 _ ?side1 ?side2 ?side3 ?side4 A4.out).mono ?_
 (case side1 => exact z_62 HR0_1.out HB.out)
 (case side2 => exact HC0_1.out)
 (case side3 => exact z_62 HR0_2.out HB.out)
 (case side4 => exact HC0_2.out)
 rintro e w11 ⟨v303, rfl, ho0, hb⟩
 refine ⟨_, rfl, ?_⟩
 have n0_ := Aside0.mk (Kd.R_lower ho0 (below_size (z_8 HB.out GE301.out)))
 have n1_ := Aside0.mk (blk_below (g := gb301) (o := .cells #[.string a0_0, .slice A0_1 l0_1.length c0_1, .slice A0_2 l0_2.length c0_2] 27 (0, 0)) (z_7 BK301.out) hb)
 have n2_ := Aside0.mk (below_step (z_8 HB.out GE301.out) hb)
 clear BK301
 clear HB
 have HO304 := n0_
 have BK301 := n1_
 have HB := n2_
 clear n0_ n1_ n2_
 (try clear hb)
 (try clear hb2)
 (try clear hk)
 (try clear hi)
 (try clear ho0)
 refine hK.out _ _ ⟨(blk_cell BK301.out 0).trans rfl, (blk_cell BK301.out 1).trans rfl, (blk_cell BK301.out 2).trans rfl⟩ (fun hHeld => ?_)
 clear hK K
 refine nm_ ?_
 refine on_ 3 14 (fun K hK => ?_)
 refine gs_ Try.func31 #[.agg #[.string a0_0, .slice A0_1 l0_1.length c0_1, .slice A0_2 l0_2.length c0_2]] ?_
 with_reducible refine (impl_sizesOf.calls k a0_0 _ _ l0_1 _ _ l0_2 t305 _ ?side1 ?side2 ?side3 ?side4 A5.out).mono ?_
 (case side1 => exact z_62 HR0_1.out HB.out)
 (case side2 => exact HC0_1.out)
 (case side3 => exact z_62 HR0_2.out HB.out)
 (case side4 => exact HC0_2.out)
 rintro e w12 ⟨v306, rfl, ho0, hb⟩
 refine ⟨_, rfl, ?_⟩
 have n0_ := Aside0.mk (Kd.R_below (z_17 HO304.out) hb)
 have n1_ := Aside0.mk (Kd.R_lower ho0 (below_size (z_8 HB.out GE301.out)))
 have n2_ := Aside0.mk (blk_below (g := gb301) (o := .cells #[.string a0_0, .slice A0_1 l0_1.length c0_1, .slice A0_2 l0_2.length c0_2] 27 (0, 0)) (z_7 BK301.out) hb)
 have n3_ := Aside0.mk (below_step (z_8 HB.out GE301.out) hb)
 clear HO304
 clear BK301
 clear HB
 have HO304 := n0_
 have HO307 := n1_
 have BK301 := n2_
 have HB := n3_
 clear n0_ n1_ n2_ n3_
 (try clear hb)
 (try clear hb2)
 (try clear hk)
 (try clear hi)
 (try clear ho0)
 refine hK.out _ _ ⟨(blk_cell BK301.out 0).trans rfl, (blk_cell BK301.out 1).trans rfl, (blk_cell BK301.out 2).trans rfl⟩ (fun hHeld => ?_)
 clear hK K
 refine nm_ ?_
 refine go_ ?_ [4, 5] ?_
 refine done_ (by kernel_rfl) ?_
 obtain ⟨Ao13, co13, eo13⟩ := Kd.R_slice HO304.out
 subst eo13
 go_upto_region 3 with (first | ((with_reducible refine gate_callee (f := 32) rfl ?_); refine gl_ 17 Try.func32 #[.slice Ao13 t302.length co13, .string a1] ?_; (with_reducible refine (impl_placeIn.calls k _ _ t302 a1 t308 _ ?side1 ?side2 A6.out).mono ?_); (case side1 => exact z_47 HO304.out); (case side2 => exact (Kd.R_reads' HO304.out).2.1); rintro e w' ⟨rfl, ⟨nd, rfl⟩⟩; refine ⟨_, rfl, ?_⟩) | ((with_reducible refine gate_callee (f := 32) rfl ?_); refine gl_ 20 Try.func32 #[.slice Ao13 t302.length co13, .string a2] ?_; (with_reducible refine (impl_placeIn.calls k _ _ t302 a2 t309 _ ?side1 ?side2 A7.out).mono ?_); (case side1 => exact z_47 HO304.out); (case side2 => exact (Kd.R_reads' HO304.out).2.1); rintro e w' ⟨rfl, ⟨nd, rfl⟩⟩; refine ⟨_, rfl, ?_⟩))
 (try simp only [Act.put, List.setIfInBounds_toArray, List.set_cons_zero, List.set_cons_succ])
 go_cut [26] (fun v26 wc => ∃ (kq : Nat) (x26_7 : Bool), v26 = .bool x26_7 ∧ Aside0 (impl_Above.j0 kq t305 t308 t309 x26_7 = some r) ∧ Aside0 (kq ≤ k) ∧ Aside0 (Kd.R (Kd.int .i64) 3 wc w.heap.size (fun _ => True) v306 t305) ∧ Aside0 (wc.heap[gb301]? = some (.cells #[.string a0_0, (.slice A0_1 l0_1.length c0_1), (.slice A0_2 l0_2.length c0_2)] 27 (0, 0))) ∧ Aside0 (Below w.heap.size w wc))
 case first =>
  have H := HC8.out
  clear HC8
  by_cases c14 : t308 < 0
  ·rw [if_pos c14] at H
   have c14b0 : decide (t308 < 0) = true := decide_eq_true c14
   clear c14
   (first | rw [c14b0] | (simp only [i64_w, i32_w]; rw [c14b0]) | skip)
   have H' := Aside0.mk H
   clear H
   go_wp2
   go_meet
   case rel => exact ⟨_, (true), z_3, H', ⟨z_57⟩, ⟨z_17 HO307.out⟩, ⟨z_7 BK301.out⟩, ⟨z_8 HB.out GE301.out⟩⟩
  ·rw [if_neg c14] at H
   have c14b0 : decide (t308 < 0) = false := decide_eq_false c14
   clear c14
   (first | rw [c14b0] | (simp only [i64_w, i32_w]; rw [c14b0]) | skip)
   have H' := Aside0.mk H
   clear H
   go_wp2
   go_meet
   case rel => exact ⟨_, (decide (t309 < 0)), z_3, H', ⟨z_57⟩, ⟨z_17 HO307.out⟩, ⟨z_7 BK301.out⟩, ⟨z_8 HB.out GE301.out⟩⟩
 case rest =>
  clear HC8
  try clear c1
  try clear p2
  try clear c3
  try clear c10
  try clear c11
  try clear c14
  try clear c14b0
  obtain ⟨kq, x26_7, rfl, HA, HJ7, HO_8, BK301, HB⟩ := hcut
  cases kq with
  | zero => exact absurd HA.out (by simp [impl_Above.j0])
  | succ kj7 =>
   have H := HA.out
   clear HA
   simp only [impl_Above.j0] at H
   by_cases c15 : x26_7 = true
   ·subst c15
    have H1 : (some false) = some r := by rw [if_pos rfl] at H; exact H
    clear H
    have H := H1
    clear H1
    obtain rfl := Option.some.inj H
    go_wp2
    go_ret
    exact ⟨z_9, z_8 HB.out GE301.out⟩
   ·replace c15 := Bool.eq_false_iff.mpr c15
    subst c15
    have H1 : (if 0 ≤ t308 then (if t308 < (t305.length : Int) then ((impl_within.f t309 t308 (wrap64 ((wrap64 (t308 + (rd t305 t308))) - 1))).bind fun t311 => (if t311 = true then (some true) else (if 0 ≤ t309 then (if t309 < (t305.length : Int) then ((impl_within.f t308 t309 (wrap64 ((wrap64 (t309 + (rd t305 t309))) - 1))).bind fun t313 => (some t313)) else (none)) else (none)))) else (none)) else (none)) = some r := by rw [if_neg (show ¬ (false = true) by decide)] at H; exact H
    clear H
    have H := H1
    clear H1
    by_cases c16 : 0 ≤ t308
    ·rw [if_pos c16] at H
     have c16b0 : decide (0 ≤ t308) = true := decide_eq_true c16
     clear c16
     by_cases c17 : t308 < (t305.length : Int)
     ·rw [if_pos c17] at H
      have c17b0 : decide (t308 < (t305.length : Int)) = true := decide_eq_true c17
      clear c17
      replace H := Option.bind_eq_some_iff.mp H
      obtain ⟨t311, A180, H⟩ := H
      replace H : (if t311 = true then (some true) else (if 0 ≤ t309 then (if t309 < (t305.length : Int) then ((impl_within.f t308 t309 (wrap64 ((wrap64 (t309 + (rd t305 t309))) - 1))).bind fun t313 => (some t313)) else (none)) else (none))) = some r := H
      have A18 := Aside0.mk A180
      clear A180
      by_cases c19 : t311 = true
      ·subst c19
       have H1 : (some true) = some r := by rw [if_pos rfl] at H; exact H
       clear H
       have H := H1
       clear H1
       obtain rfl := Option.some.inj H
       obtain ⟨Ao20, co20, eo20⟩ := Kd.R_slice HO_8.out
       subst eo20
       have p310 : 0 ≤ (t308 : Int) := of_decide_eq_true z_5
       have q310 : t308 < (t305.length : Int) := of_decide_eq_true z_5
       obtain ⟨ad310, e310, hx310_0⟩ := Kd.at_int (Kd.R_reads' HO_8.out).2.2 t308 p310 q310
       cases e310
       replace p310 := eq_true p310
       replace q310 := eq_true q310
       go_wp2_with (first | ((with_reducible refine gate_callee (f := 29) rfl ?_); refine gl_ 36 Try.func29 #[.int .i64 t309, .int .i64 t308, .int .i64 (wrap64 ((wrap64 (t308 + (rd t305 t308))) - 1))] ?_; (with_reducible refine (impl_within.calls t309 t308 (wrap64 ((wrap64 (t308 + (rd t305 t308))) - 1)) true _ A18.out).mono ?_); rintro e w' ⟨rfl, ⟨nd, rfl⟩⟩; refine ⟨_, rfl, ?_⟩))
       go_ret
       exact ⟨z_9, z_8 HB.out GE301.out⟩
      ·replace c19 := Bool.eq_false_iff.mpr c19
       subst c19
       have H1 : (if 0 ≤ t309 then (if t309 < (t305.length : Int) then ((impl_within.f t308 t309 (wrap64 ((wrap64 (t309 + (rd t305 t309))) - 1))).bind fun t313 => (some t313)) else (none)) else (none)) = some r := by rw [if_neg (show ¬ (false = true) by decide)] at H; exact H
       clear H
       have H := H1
       clear H1
       by_cases c21 : 0 ≤ t309
       ·rw [if_pos c21] at H
        have c21b0 : decide (0 ≤ t309) = true := decide_eq_true c21
        clear c21
        by_cases c22 : t309 < (t305.length : Int)
        ·rw [if_pos c22] at H
         have c22b0 : decide (t309 < (t305.length : Int)) = true := decide_eq_true c22
         clear c22
         replace H := Option.bind_eq_some_iff.mp H
         obtain ⟨t313, A230, H⟩ := H
         replace H : (some t313) = some r := H
         have A23 := Aside0.mk A230
         clear A230
         obtain rfl := Option.some.inj H
         obtain ⟨Ao24, co24, eo24⟩ := Kd.R_slice HO_8.out
         subst eo24
         have p310 : 0 ≤ (t308 : Int) := of_decide_eq_true z_5
         have q310 : t308 < (t305.length : Int) := of_decide_eq_true z_5
         obtain ⟨ad310, e310, hx310_0⟩ := Kd.at_int (Kd.R_reads' HO_8.out).2.2 t308 p310 q310
         cases e310
         replace p310 := eq_true p310
         replace q310 := eq_true q310
         go_wp2_with (first | ((with_reducible refine gate_callee (f := 29) rfl ?_); refine gl_ 36 Try.func29 #[.int .i64 t309, .int .i64 t308, .int .i64 (wrap64 ((wrap64 (t308 + (rd t305 t308))) - 1))] ?_; (with_reducible refine (impl_within.calls t309 t308 (wrap64 ((wrap64 (t308 + (rd t305 t308))) - 1)) false _ A18.out).mono ?_); rintro e w' ⟨rfl, ⟨nd, rfl⟩⟩; (try clear A18); refine ⟨_, rfl, ?_⟩; have p312 : 0 ≤ (t309 : Int) := of_decide_eq_true z_5; have q312 : t309 < (t305.length : Int) := of_decide_eq_true z_5; obtain ⟨ad312, e312, hx312_0⟩ := Kd.at_int (Kd.R_reads' HO_8.out).2.2 t309 p312 q312; obtain rfl : ad310 = ad312 := (by injection e312); replace p312 := eq_true p312; replace q312 := eq_true q312) | (go_at_call 29; (with_reducible refine (impl_within.calls t308 t309 (wrap64 ((wrap64 (t309 + (rd t305 t309))) - 1)) t313 _ A23.out).mono ?_); rintro e w' ⟨rfl, ⟨nd, rfl⟩⟩))
         go_ret
         exact ⟨z_9, z_8 HB.out GE301.out⟩
        ·rw [if_neg c22] at H
         exact absurd H (by simp)
       ·rw [if_neg c21] at H
        exact absurd H (by simp)
     ·rw [if_neg c17] at H
      exact absurd H (by simp)
    ·rw [if_neg c16] at H
     exact absurd H (by simp)
mutual
def impl_highest.l0 : Nat → List ByteArray → List Int → Int → List (S27) → Int → Int → ByteArray → List ByteArray → List (S27) → Option (Int)
 | 0, _, _, _, _, _, _, _, _, _ => none
 | k + 1, x1, x2, x7, x11, x12, x13, x315000, x315001, x315002 => if x13 < x12 then (if 0 ≤ x13 then (if x13 < (x11.length : Int) then ((impl_highest.f k ((rd_T27 x11 x13).f0) ((rd_T27 x11 x13).f1) ((rd_T27 x11 x13).f2) x1 x2).bind fun t317 => (impl_highest.l0 k x1 x2 (mx x7 t317) x11 x12 (wrap64 (x13 + 1)) x315000 x315001 x315002)) else (none)) else (none)) else ((impl_WordsIn.f k x315000 x315001 x315002 x1 x2).bind fun t318 => (some (wrap64 (t318 + x7))))
def impl_highest.f : Nat → ByteArray → List ByteArray → List (S27) → List ByteArray → List Int → Option (Int)
 | 0, _, _, _, _, _ => none
 | k + 1, a0_0, l0_1, l0_2, l1, l2 => impl_highest.l0 k l1 l2 0 l0_2 (l0_2.length : Int) 0 a0_0 l0_1 l0_2
end
theorem impl_highest.mono_l : ∀ k, (∀ y0 y1 y2 y3 y4, LeO (impl_highest.f k y0 y1 y2 y3 y4) (impl_highest.f (k + 1) y0 y1 y2 y3 y4)) ∧ (∀ y0 y1 y2 y3 y4 y5 y6 y7 y8, LeO (impl_highest.l0 k y0 y1 y2 y3 y4 y5 y6 y7 y8) (impl_highest.l0 (k + 1) y0 y1 y2 y3 y4 y5 y6 y7 y8))
 | 0 => ⟨fun _ _ _ _ _ r h => by simp [impl_highest.f] at h, fun _ _ _ _ _ _ _ _ _ r h => by simp [impl_highest.l0] at h⟩
 | k + 1 => by
  obtain ⟨ih0, ih1⟩ := impl_highest.mono_l k
  refine ⟨?_, ?_⟩
  ·intro y0 y1 y2 y3 y4
   unfold impl_highest.f
   repeat' first
   | (with_reducible exact ih0 _ _ _ _ _)
   | (with_reducible exact ih1 _ _ _ _ _ _ _ _ _)
   | (with_reducible exact impl_WordsIn.mono _ _ _ _ _ _)
   | (with_reducible exact LeO.refl _)
   | (with_reducible exact LeO.none _)
   | (with_reducible refine LeO.ite ?_ ?_)
   | (with_reducible refine LeO.bind ?_ (fun _ => ?_))
   | exact ih0 _ _ _ _ _
   | exact ih1 _ _ _ _ _ _ _ _ _
   | exact impl_WordsIn.mono _ _ _ _ _ _
   | exact LeO.none _
   | refine LeO.ite ?_ ?_
   | refine LeO.bind ?_ (fun _ => ?_)
  ·intro y0 y1 y2 y3 y4 y5 y6 y7 y8
   unfold impl_highest.l0
   repeat' first
   | (with_reducible exact ih0 _ _ _ _ _)
   | (with_reducible exact ih1 _ _ _ _ _ _ _ _ _)
   | (with_reducible exact impl_WordsIn.mono _ _ _ _ _ _)
   | (with_reducible exact LeO.refl _)
   | (with_reducible exact LeO.none _)
   | (with_reducible refine LeO.ite ?_ ?_)
   | (with_reducible refine LeO.bind ?_ (fun _ => ?_))
   | exact ih0 _ _ _ _ _
   | exact ih1 _ _ _ _ _ _ _ _ _
   | exact impl_WordsIn.mono _ _ _ _ _ _
   | exact LeO.none _
   | refine LeO.ite ?_ ?_
   | refine LeO.bind ?_ (fun _ => ?_)
theorem impl_highest.mono : ∀ a0 a1 a2 a3 a4 k, LeO (impl_highest.f k a0 a1 a2 a3 a4) (impl_highest.f (k + 1) a0 a1 a2 a3 a4) := by
 intro a0 a1 a2 a3 a4 k
 obtain ⟨ih0, ih1⟩ := impl_highest.mono_l k
 exact ih0 a0 a1 a2 a3 a4
set_option maxHeartbeats 8000000 in
set_option maxRecDepth 100000 in
theorem impl_highest.calls (k : Nat) : ∀ (a0_0 : ByteArray) (A0_1 : Option Addr) (c0_1 : Nat) (l0_1 : List ByteArray) (A0_2 : Option Addr) (c0_2 : Nat) (l0_2 : List (S27)) (A1 : Option Addr) (c1 : Nat) (l1 : List ByteArray) (A2 : Option Addr) (c2 : Nat) (l2 : List Int) (r : Int) (w : World) (hr0_1 : Kd.C Kd.string w A0_1 l0_1.length l0_1) (hc0_1 : l0_1.length ≤ c0_1) (hr0_2 : Kd.C k27 w A0_2 l0_2.length l0_2) (hc0_2 : l0_2.length ≤ c0_2) (hr1 : Kd.C Kd.string w A1 l1.length l1) (hc1 : l1.length ≤ c1) (hr2 : Kd.C (Kd.int .i64) w A2 l2.length l2) (hc2 : l2.length ≤ c2) (h : impl_highest.f k a0_0 l0_1 l0_2 l1 l2 = some r),
 Calls Try.prog 33 #[.agg #[.string a0_0, .slice A0_1 l0_1.length c0_1, .slice A0_2 l0_2.length c0_2], .slice A1 l1.length c1, .slice A2 l2.length c2] w fun e w' => e = .returned (.int .i64 r) ∧ Below w.heap.size w w' := by
 induction k using Nat.strongRecOn with
 | _ k ih =>
 intro a0_0 A0_1 c0_1 l0_1 A0_2 c0_2 l0_2 A1 c1 l1 A2 c2 l2 r w hr0_1 hc0_1 hr0_2 hc0_2 hr1 hc1 hr2 hc2 h
 cases k with
 | zero => exact absurd h (by simp [impl_highest.f])
 | succ k =>
 simp only [impl_highest.f] at h
 have hu27 := Try.underlying27
 have HR0_1 := Aside0.mk hr0_1
 have HC0_1 := Aside0.mk hc0_1
 clear hr0_1 hc0_1
 have HR0_2 := Aside0.mk hr0_2
 have HC0_2 := Aside0.mk hc0_2
 clear hr0_2 hc0_2
 have HR1 := Aside0.mk hr1
 have HC1 := Aside0.mk hc1
 clear hr1 hc1
 have HR2 := Aside0.mk hr2
 have HC2 := Aside0.mk hc2
 clear hr2 hc2
 have HB := Aside0.mk (Below.refl w.heap.size w)
 have H : (impl_highest.l0 k l1 l2 0 l0_2 (l0_2.length : Int) 0 a0_0 l0_1 l0_2) = some r := h
 clear h
 have H' := Aside0.mk H
 clear H
 go_enter Try.func33, Try.ntmps33
 go_wp2_with (first | ((with_reducible refine gate_dst (N := 3) rfl ?_); refine box_event ?hg (N := 3) ?hd (cs := #[.string a0_0, .slice A0_1 l0_1.length c0_1, .slice A0_2 l0_2.length c0_2]) (t := 27) ?hr ?_; (case hd => rfl); (case hg => rfl); (case hr => first | (go_simp; done) | (go_simp; rfl)); intro gb314 hg w4 hbox hb; have n0_ := Aside0.mk (below_step (z_4 HB.out) hb); have n1_ := Aside0.mk (hbox); have n2_ := Aside0.mk ((z_6 HB.out : w.heap.size ≤ gb314)); have n3_ := Aside0.mk ((z_6 HB.out : w.heap.size ≤ gb314)); clear HB; have HB := n0_; have BK314 := n1_; have GW314 := n2_; have GE314 := n3_; clear n0_ n1_ n2_ n3_; clear hb hbox hg; have hcz5_0 : w4.cell? ⟨gb314, 0, none⟩ = some (.string a0_0) := (blk_cell BK314.out 0).trans rfl; have hcz5_1 : w4.cell? ⟨gb314, 1, none⟩ = some (.slice A0_1 l0_1.length c0_1) := (blk_cell BK314.out 1).trans rfl; have hcz5_2 : w4.cell? ⟨gb314, 2, none⟩ = some (.slice A0_2 l0_2.length c0_2) := (blk_cell BK314.out 2).trans rfl; have hfz5_0 := blk_frozen BK314.out 0; have hfz5_1 := blk_frozen BK314.out 1; have hfz5_2 := blk_frozen BK314.out 2))
 go_loopg [7, 13] k (fun kq v7 v13 w' => ∃ (x7_1 : Int) (x13_1 : Int), v7 = .int .i64 x7_1 ∧ v13 = .int .i64 x13_1 ∧ Aside0 (impl_highest.l0 kq l1 l2 x7_1 l0_2 (l0_2.length : Int) x13_1 a0_0 l0_1 l0_2 = some r) ∧ Aside0 (kq ≤ k) ∧ Aside0 (w'.heap[gb314]? = some (.cells #[.string a0_0, (.slice A0_1 l0_1.length c0_1), (.slice A0_2 l0_2.length c0_2)] 27 (0, 0))) ∧ Aside0 (Below w.heap.size w w'))
 case atStart => exact ⟨(0), (0), z_3, z_3, H', ⟨Nat.le_refl _⟩, ⟨z_7 BK314.out⟩, ⟨z_8 HB.out GE314.out⟩⟩
 case round =>
  clear H'
  try clear c1
  try clear c2
  try clear p2
  try clear c3
  try clear hcz5_0
  try clear hcz5_1
  try clear hcz5_2
  try clear hfz5_0
  try clear hfz5_1
  try clear hfz5_2
  obtain ⟨x7_1, x13_1, rfl, rfl, HA, HK1, BK314, HB⟩ := hrel
  cases gk with
  | zero => exact absurd HA.out (by simp [impl_highest.l0])
  | succ k1 =>
   have H := HA.out
   clear HA
   simp only [impl_highest.l0] at H
   by_cases c6 : x13_1 < (l0_2.length : Int)
   ·rw [if_pos c6] at H
    have c6b0 : decide (x13_1 < (l0_2.length : Int)) = true := decide_eq_true c6
    clear c6
    by_cases c7 : 0 ≤ x13_1
    ·rw [if_pos c7] at H
     have c7b0 : decide (0 ≤ x13_1) = true := decide_eq_true c7
     clear c7
     by_cases c8 : x13_1 < (l0_2.length : Int)
     ·rw [if_pos c8] at H
      have c8b0 : decide (x13_1 < (l0_2.length : Int)) = true := decide_eq_true c8
      clear c8
      replace H := Option.bind_eq_some_iff.mp H
      obtain ⟨t317, A90, H⟩ := H
      replace H : (impl_highest.l0 k1 l1 l2 (mx x7_1 t317) l0_2 (l0_2.length : Int) (wrap64 (x13_1 + 1)) a0_0 l0_1 l0_2) = some r := H
      have A9 := Aside0.mk A90
      clear A90
      obtain ⟨ji10, hji10⟩ : ∃ j_ : Int, (mx x7_1 t317) = j_ := ⟨_, rfl⟩
      replace H : (impl_highest.l0 k1 l1 l2 ji10 l0_2 (l0_2.length : Int) (wrap64 (x13_1 + 1)) a0_0 l0_1 l0_2) = some r := by first | (rw [hji10] at H; exact H) | (simp only [hji10] at H ⊢; exact H)
      (try rw [hji10] at A9)
      have hji10_ : (if x7_1 < t317 then t317 else x7_1) = ji10 := hji10
      have H' := Aside0.mk H
      clear H
      have p315 : 0 ≤ (x13_1 : Int) := of_decide_eq_true z_5
      have q315 : x13_1 < (l0_2.length : Int) := of_decide_eq_true z_5
      obtain ⟨ad315, A315_1, c315_1, A315_2, c315_2, e315, hx315_0, hx315_1, hx315_2, hl315_1, hi315_1, hl315_2, hi315_2⟩ := at_T27 HR0_2.out x13_1 p315 q315
      cases e315
      replace hx315_0 := (HB.out.cell (World.block_lt_of_cell? w _ hx315_0)).trans hx315_0
      replace hx315_1 := (HB.out.cell (World.block_lt_of_cell? w _ hx315_1)).trans hx315_1
      replace hx315_2 := (HB.out.cell (World.block_lt_of_cell? w _ hx315_2)).trans hx315_2
      have HR315_1 := Aside0.mk hi315_1
      have HC315_1 := Aside0.mk hl315_1
      clear hi315_1 hl315_1
      have HR315_2 := Aside0.mk hi315_2
      have HC315_2 := Aside0.mk hl315_2
      clear hi315_2 hl315_2
      replace p315 := eq_true p315
      replace q315 := eq_true q315
      go_wp2_with (first | ((with_reducible refine gate_dst (N := 9) rfl ?_); refine box_event ?hg (N := 9) ?hd (cs := #[.string (⟨#[]⟩ : ByteArray), .slice none 0 0, .slice none 0 0]) (t := 27) ?hr ?_; (case hd => rfl); (case hg => rfl); (case hr => first | (go_simp; done) | (go_simp; rfl)); intro gb316 hg w11 hbox hb; have n0_ := Aside0.mk (blk_below (g := gb314) (o := .cells #[.string a0_0, .slice A0_1 l0_1.length c0_1, .slice (some ad315) l0_2.length c0_2] 27 (0, 0)) (z_7 BK314.out) hb); have n1_ := Aside0.mk (below_step (z_8 HB.out GE314.out) hb); have n2_ := Aside0.mk (hbox); have n3_ := Aside0.mk ((z_54 HB.out GE314.out : w.heap.size ≤ gb316)); have n4_ := Aside0.mk ((z_54 HB.out GE314.out : w.heap.size ≤ gb316)); have n5_ := Aside0.mk ((by rw [hg]; exact Nat.ne_of_lt (blk_lt (g := gb314) (o := .cells #[.string a0_0, .slice A0_1 l0_1.length c0_1, .slice (some ad315) l0_2.length c0_2] 27 (0, 0)) (z_7 BK314.out)) : gb314 ≠ gb316)); have n6_ := Aside0.mk ((by rw [hg]; exact Nat.ne_of_gt (blk_lt (g := gb314) (o := .cells #[.string a0_0, .slice A0_1 l0_1.length c0_1, .slice (some ad315) l0_2.length c0_2] 27 (0, 0)) (z_7 BK314.out)) : gb316 ≠ gb314)); clear BK314; clear HB; have BK314 := n0_; have HB := n1_; have BK316 := n2_; have GW316 := n3_; have GE316 := n4_; have NB314_316 := n5_; have NB316_314 := n6_; clear n0_ n1_ n2_ n3_ n4_ n5_ n6_; clear hb hbox hg; have hnb12 := NB316_314.out; have hnc12 := NB314_316.out; have hcz13_0 : w11.cell? ⟨gb316, 0, none⟩ = some (.string (⟨#[]⟩ : ByteArray)) := (blk_cell BK316.out 0).trans rfl; have hcz13_1 : w11.cell? ⟨gb316, 1, none⟩ = some (.slice none 0 0) := (blk_cell BK316.out 1).trans rfl; have hcz13_2 : w11.cell? ⟨gb316, 2, none⟩ = some (.slice none 0 0) := (blk_cell BK316.out 2).trans rfl; have hfz13_0 := blk_frozen BK316.out 0; have hfz13_1 := blk_frozen BK316.out 1; have hfz13_2 := blk_frozen BK316.out 2) | ((with_reducible refine gate_callee (f := 33) rfl ?_); refine gl_ 21 Try.func33 #[.agg #[.string ((rd_T27 l0_2 x13_1).f0), .slice A315_1 ((rd_T27 l0_2 x13_1).f1).length c315_1, .slice A315_2 ((rd_T27 l0_2 x13_1).f2).length c315_2], .slice A1 l1.length c1, .slice A2 l2.length c2] ?_; (with_reducible refine (ih k1 (by have := HK1.out; omega) ((rd_T27 l0_2 x13_1).f0) _ _ ((rd_T27 l0_2 x13_1).f1) _ _ ((rd_T27 l0_2 x13_1).f2) _ _ l1 _ _ l2 t317 _ ?side1 ?side2 ?side3 ?side4 ?side5 ?side6 ?side7 ?side8 A9.out).mono ?_); (case side1 => exact Kd.C_below HR315_1.out (z_55 HB.out GE314.out GE316.out)); (case side2 => exact HC315_1.out); (case side3 => exact Kd.C_below HR315_2.out (z_55 HB.out GE314.out GE316.out)); (case side4 => exact HC315_2.out); (case side5 => exact Kd.C_below HR1.out (z_55 HB.out GE314.out GE316.out)); (case side6 => exact HC1.out); (case side7 => exact Kd.C_below HR2.out (z_55 HB.out GE314.out GE316.out)); (case side8 => exact HC2.out); rintro e w14 ⟨rfl, hb⟩; refine ⟨_, rfl, ?_⟩; have n0_ := Aside0.mk (blk_below (g := gb314) (o := .cells #[.string a0_0, .slice A0_1 l0_1.length c0_1, .slice (some ad315) l0_2.length c0_2] 27 (0, 0)) (z_22 NB314_316.out BK314.out) hb); have n1_ := Aside0.mk (blk_below (g := gb316) (o := .cells #[.string ((rd_T27 l0_2 x13_1).f0), .slice A315_1 ((rd_T27 l0_2 x13_1).f1).length c315_1, .slice A315_2 ((rd_T27 l0_2 x13_1).f2).length c315_2] 27 (0, 0)) (by (with_reducible repeat (first | refine blk_drewN ?_ _ | refine blk_drew ?_ | refine blk_alloc ?_ _)); refine blk_put (cs := #[.string ((rd_T27 l0_2 x13_1).f0), .slice A315_1 ((rd_T27 l0_2 x13_1).f1).length c315_1, .slice none 0 0]) ?_ 2 _ rfl; (with_reducible repeat (first | refine blk_drewN ?_ _ | refine blk_drew ?_ | refine blk_alloc ?_ _)); refine blk_put (cs := #[.string ((rd_T27 l0_2 x13_1).f0), .slice none 0 0, .slice none 0 0]) ?_ 1 _ rfl; (with_reducible repeat (first | refine blk_drewN ?_ _ | refine blk_drew ?_ | refine blk_alloc ?_ _)); refine blk_put (cs := #[.string (⟨#[]⟩ : ByteArray), .slice none 0 0, .slice none 0 0]) ?_ 0 _ rfl; (with_reducible repeat (first | refine blk_drewN ?_ _ | refine blk_drew ?_ | refine blk_alloc ?_ _)); exact BK316.out) hb); have n2_ := Aside0.mk (below_step (z_55 HB.out GE314.out GE316.out) hb); clear BK314; clear BK316; clear HB; have BK314 := n0_; have BK316 := n1_; have HB := n2_; clear n0_ n1_ n2_; (try clear hb); (try clear hb2); (try clear hk); (try clear hi)))
      go_roundg k1
      case measure => have := HK1.out; omega
      case rel => exact ⟨(ji10), (wrap64 (x13_1 + 1)), (by first | rfl | (simp; done) | (simp only [← hji10] <;> (first | rfl | simp)) | (simp [*]; done)), z_3, H', ⟨by have := HK1.out; omega⟩, ⟨z_7 BK314.out⟩, ⟨z_55 HB.out GE314.out GE316.out⟩⟩
     ·rw [if_neg c8] at H
      exact absurd H (by simp)
    ·rw [if_neg c7] at H
     exact absurd H (by simp)
   ·rw [if_neg c6] at H
    have c6b0 : decide (x13_1 < (l0_2.length : Int)) = false := decide_eq_false c6
    clear c6
    replace H := Option.bind_eq_some_iff.mp H
    obtain ⟨t318, A150, H⟩ := H
    replace H : (some (wrap64 (t318 + x7_1))) = some r := H
    have A15 := Aside0.mk A150
    clear A150
    obtain rfl := Option.some.inj H
    have hcz16_0 : wr.cell? ⟨gb314, 0, none⟩ = some (.string a0_0) := (blk_cell BK314.out 0).trans rfl
    have hcz16_1 : wr.cell? ⟨gb314, 1, none⟩ = some (.slice A0_1 l0_1.length c0_1) := (blk_cell BK314.out 1).trans rfl
    have hcz16_2 : wr.cell? ⟨gb314, 2, none⟩ = some (.slice A0_2 l0_2.length c0_2) := (blk_cell BK314.out 2).trans rfl
    have hfz16_0 := blk_frozen BK314.out 0
    have hfz16_1 := blk_frozen BK314.out 1
    have hfz16_2 := blk_frozen BK314.out 2
    go_wp2_with (first | ((with_reducible refine gate_callee (f := 22) rfl ?_); refine gl_ 27 Try.func22 #[.agg #[.string a0_0, .slice A0_1 l0_1.length c0_1, .slice A0_2 l0_2.length c0_2], .slice A1 l1.length c1, .slice A2 l2.length c2] ?_; (with_reducible refine (impl_WordsIn.calls k1 a0_0 _ _ l0_1 _ _ l0_2 _ _ l1 _ _ l2 t318 _ ?side1 ?side2 ?side3 ?side4 ?side5 ?side6 ?side7 ?side8 A15.out).mono ?_); (case side1 => exact z_62 HR0_1.out HB.out); (case side2 => exact HC0_1.out); (case side3 => exact z_62 HR0_2.out HB.out); (case side4 => exact HC0_2.out); (case side5 => exact z_62 HR1.out HB.out); (case side6 => exact HC1.out); (case side7 => exact z_62 HR2.out HB.out); (case side8 => exact HC2.out); rintro e w17 ⟨rfl, hb⟩; refine ⟨_, rfl, ?_⟩; have n0_ := Aside0.mk (blk_below (g := gb314) (o := .cells #[.string a0_0, .slice A0_1 l0_1.length c0_1, .slice A0_2 l0_2.length c0_2] 27 (0, 0)) (z_7 BK314.out) hb); have n1_ := Aside0.mk (below_step (z_8 HB.out GE314.out) hb); clear BK314; clear HB; have BK314 := n0_; have HB := n1_; clear n0_ n1_; (try clear hb); (try clear hb2); (try clear hk); (try clear hi)))
    go_ret
    exact ⟨z_9, z_8 HB.out GE314.out⟩
def impl_Peak.f (k : Nat) (a0_0 : ByteArray) (l0_1 : List ByteArray) (l0_2 : List (S27)) (l1 : List ByteArray) (l2 : List Int) : Option (Int) := (impl_SegOk.f k a0_0 l0_1 l0_2).bind fun t320 => (if t320 = true then ((impl_highest.f k a0_0 l0_1 l0_2 l1 l2).bind fun t321 => (some t321)) else (some 0))
theorem impl_Peak.mono : ∀ a0 a1 a2 a3 a4 k, LeO (impl_Peak.f k a0 a1 a2 a3 a4) (impl_Peak.f (k + 1) a0 a1 a2 a3 a4) := by
 intro a0 a1 a2 a3 a4 k
 unfold impl_Peak.f
 repeat' first
  | (with_reducible exact impl_SegOk.mono _ _ _ _)
  | (with_reducible exact impl_highest.mono _ _ _ _ _ _)
  | (with_reducible exact LeO.refl _)
  | (with_reducible exact LeO.none _)
  | (with_reducible refine LeO.ite ?_ ?_)
  | (with_reducible refine LeO.bind ?_ (fun _ => ?_))
  | exact impl_SegOk.mono _ _ _ _
  | exact impl_highest.mono _ _ _ _ _ _
  | exact LeO.none _
  | refine LeO.ite ?_ ?_
  | refine LeO.bind ?_ (fun _ => ?_)
set_option maxHeartbeats 8000000 in
set_option maxRecDepth 100000 in
theorem impl_Peak.calls (k : Nat) (a0_0 : ByteArray) (A0_1 : Option Addr) (c0_1 : Nat) (l0_1 : List ByteArray) (A0_2 : Option Addr) (c0_2 : Nat) (l0_2 : List (S27)) (A1 : Option Addr) (c1 : Nat) (l1 : List ByteArray) (A2 : Option Addr) (c2 : Nat) (l2 : List Int) (r : Int) (w : World) (hr0_1 : Kd.C Kd.string w A0_1 l0_1.length l0_1) (hc0_1 : l0_1.length ≤ c0_1) (hr0_2 : Kd.C k27 w A0_2 l0_2.length l0_2) (hc0_2 : l0_2.length ≤ c0_2) (hr1 : Kd.C Kd.string w A1 l1.length l1) (hc1 : l1.length ≤ c1) (hr2 : Kd.C (Kd.int .i64) w A2 l2.length l2) (hc2 : l2.length ≤ c2) (h : impl_Peak.f k a0_0 l0_1 l0_2 l1 l2 = some r) :
 Calls Try.prog 12 #[.agg #[.string a0_0, .slice A0_1 l0_1.length c0_1, .slice A0_2 l0_2.length c0_2], .slice A1 l1.length c1, .slice A2 l2.length c2] w fun e w' => e = .returned (.int .i64 r) ∧ Below w.heap.size w w' := by
 have hu27 := Try.underlying27
 have HR0_1 := Aside0.mk hr0_1
 have HC0_1 := Aside0.mk hc0_1
 clear hr0_1 hc0_1
 have HR0_2 := Aside0.mk hr0_2
 have HC0_2 := Aside0.mk hc0_2
 clear hr0_2 hc0_2
 have HR1 := Aside0.mk hr1
 have HC1 := Aside0.mk hc1
 clear hr1 hc1
 have HR2 := Aside0.mk hr2
 have HC2 := Aside0.mk hc2
 clear hr2 hc2
 have HB := Aside0.mk (Below.refl w.heap.size w)
 have H : ((impl_SegOk.f k a0_0 l0_1 l0_2).bind fun t320 => (if t320 = true then ((impl_highest.f k a0_0 l0_1 l0_2 l1 l2).bind fun t321 => (some t321)) else (some 0))) = some r := h
 clear h
 replace H := Option.bind_eq_some_iff.mp H
 obtain ⟨t320, A40, H⟩ := H
 replace H : (if t320 = true then ((impl_highest.f k a0_0 l0_1 l0_2 l1 l2).bind fun t321 => (some t321)) else (some 0)) = some r := H
 have A4 := Aside0.mk A40
 clear A40
 by_cases c5 : t320 = true
 ·subst c5
  have H1 : ((impl_highest.f k a0_0 l0_1 l0_2 l1 l2).bind fun t321 => (some t321)) = some r := by rw [if_pos rfl] at H; exact H
  clear H
  have H := H1
  clear H1
  replace H := Option.bind_eq_some_iff.mp H
  obtain ⟨t321, A60, H⟩ := H
  replace H : (some t321) = some r := H
  have A6 := Aside0.mk A60
  clear A60
  obtain rfl := Option.some.inj H
  go_enter Try.func12, Try.ntmps12
  go_wp2_with (first | ((with_reducible refine gate_dst (N := 3) rfl ?_); refine box_event ?hg (N := 3) ?hd (cs := #[.string a0_0, .slice A0_1 l0_1.length c0_1, .slice A0_2 l0_2.length c0_2]) (t := 27) ?hr ?_; (case hd => rfl); (case hg => rfl); (case hr => first | (go_simp; done) | (go_simp; rfl)); intro gb319 hg w7 hbox hb; have n0_ := Aside0.mk (below_step (z_4 HB.out) hb); have n1_ := Aside0.mk (hbox); have n2_ := Aside0.mk ((z_6 HB.out : w.heap.size ≤ gb319)); have n3_ := Aside0.mk ((z_6 HB.out : w.heap.size ≤ gb319)); clear HB; have HB := n0_; have BK319 := n1_; have GW319 := n2_; have GE319 := n3_; clear n0_ n1_ n2_ n3_; clear hb hbox hg; have hcz8_0 : w7.cell? ⟨gb319, 0, none⟩ = some (.string a0_0) := (blk_cell BK319.out 0).trans rfl; have hcz8_1 : w7.cell? ⟨gb319, 1, none⟩ = some (.slice A0_1 l0_1.length c0_1) := (blk_cell BK319.out 1).trans rfl; have hcz8_2 : w7.cell? ⟨gb319, 2, none⟩ = some (.slice A0_2 l0_2.length c0_2) := (blk_cell BK319.out 2).trans rfl; have hfz8_0 := blk_frozen BK319.out 0; have hfz8_1 := blk_frozen BK319.out 1; have hfz8_2 := blk_frozen BK319.out 2) | ((with_reducible refine gate_callee (f := 28) rfl ?_); refine gl_ 8 Try.func28 #[.agg #[.string a0_0, .slice A0_1 l0_1.length c0_1, .slice A0_2 l0_2.length c0_2]] ?_; (with_reducible refine (impl_SegOk.calls k a0_0 _ _ l0_1 _ _ l0_2 true _ ?side1 ?side2 ?side3 ?side4 A4.out).mono ?_); (case side1 => exact z_62 HR0_1.out HB.out); (case side2 => exact HC0_1.out); (case side3 => exact z_62 HR0_2.out HB.out); (case side4 => exact HC0_2.out); rintro e w9 ⟨rfl, hb⟩; refine ⟨_, rfl, ?_⟩; have n0_ := Aside0.mk (blk_below (g := gb319) (o := .cells #[.string a0_0, .slice A0_1 l0_1.length c0_1, .slice A0_2 l0_2.length c0_2] 27 (0, 0)) (z_7 BK319.out) hb); have n1_ := Aside0.mk (below_step (z_8 HB.out GE319.out) hb); clear BK319; clear HB; have BK319 := n0_; have HB := n1_; clear n0_ n1_; (try clear hb); (try clear hb2); (try clear hk); (try clear hi); have hcz10_0 : w9.cell? ⟨gb319, 0, none⟩ = some (.string a0_0) := (blk_cell BK319.out 0).trans rfl; have hcz10_1 : w9.cell? ⟨gb319, 1, none⟩ = some (.slice A0_1 l0_1.length c0_1) := (blk_cell BK319.out 1).trans rfl; have hcz10_2 : w9.cell? ⟨gb319, 2, none⟩ = some (.slice A0_2 l0_2.length c0_2) := (blk_cell BK319.out 2).trans rfl; have hfz10_0 := blk_frozen BK319.out 0; have hfz10_1 := blk_frozen BK319.out 1; have hfz10_2 := blk_frozen BK319.out 2) | ((with_reducible refine gate_callee (f := 33) rfl ?_); refine gl_ 13 Try.func33 #[.agg #[.string a0_0, .slice A0_1 l0_1.length c0_1, .slice A0_2 l0_2.length c0_2], .slice A1 l1.length c1, .slice A2 l2.length c2] ?_; (with_reducible refine (impl_highest.calls k a0_0 _ _ l0_1 _ _ l0_2 _ _ l1 _ _ l2 t321 _ ?side1 ?side2 ?side3 ?side4 ?side5 ?side6 ?side7 ?side8 A6.out).mono ?_); (case side1 => exact z_62 HR0_1.out HB.out); (case side2 => exact HC0_1.out); (case side3 => exact z_62 HR0_2.out HB.out); (case side4 => exact HC0_2.out); (case side5 => exact z_62 HR1.out HB.out); (case side6 => exact HC1.out); (case side7 => exact z_62 HR2.out HB.out); (case side8 => exact HC2.out); rintro e w11 ⟨rfl, hb⟩; refine ⟨_, rfl, ?_⟩; have n0_ := Aside0.mk (blk_below (g := gb319) (o := .cells #[.string a0_0, .slice A0_1 l0_1.length c0_1, .slice A0_2 l0_2.length c0_2] 27 (0, 0)) (z_7 BK319.out) hb); have n1_ := Aside0.mk (below_step (z_8 HB.out GE319.out) hb); clear BK319; clear HB; have BK319 := n0_; have HB := n1_; clear n0_ n1_; (try clear hb); (try clear hb2); (try clear hk); (try clear hi)))
  go_ret
  exact ⟨z_9, z_8 HB.out GE319.out⟩
 ·replace c5 := Bool.eq_false_iff.mpr c5
  subst c5
  have H1 : (some 0) = some r := by rw [if_neg (show ¬ (false = true) by decide)] at H; exact H
  clear H
  have H := H1
  clear H1
  obtain rfl := Option.some.inj H
  go_enter Try.func12, Try.ntmps12
  go_wp2_with (first | ((with_reducible refine gate_dst (N := 3) rfl ?_); refine box_event ?hg (N := 3) ?hd (cs := #[.string a0_0, .slice A0_1 l0_1.length c0_1, .slice A0_2 l0_2.length c0_2]) (t := 27) ?hr ?_; (case hd => rfl); (case hg => rfl); (case hr => first | (go_simp; done) | (go_simp; rfl)); intro gb319 hg w12 hbox hb; have n0_ := Aside0.mk (below_step (z_4 HB.out) hb); have n1_ := Aside0.mk (hbox); have n2_ := Aside0.mk ((z_6 HB.out : w.heap.size ≤ gb319)); have n3_ := Aside0.mk ((z_6 HB.out : w.heap.size ≤ gb319)); clear HB; have HB := n0_; have BK319 := n1_; have GW319 := n2_; have GE319 := n3_; clear n0_ n1_ n2_ n3_; clear hb hbox hg; have hcz13_0 : w12.cell? ⟨gb319, 0, none⟩ = some (.string a0_0) := (blk_cell BK319.out 0).trans rfl; have hcz13_1 : w12.cell? ⟨gb319, 1, none⟩ = some (.slice A0_1 l0_1.length c0_1) := (blk_cell BK319.out 1).trans rfl; have hcz13_2 : w12.cell? ⟨gb319, 2, none⟩ = some (.slice A0_2 l0_2.length c0_2) := (blk_cell BK319.out 2).trans rfl; have hfz13_0 := blk_frozen BK319.out 0; have hfz13_1 := blk_frozen BK319.out 1; have hfz13_2 := blk_frozen BK319.out 2) | ((with_reducible refine gate_callee (f := 28) rfl ?_); refine gl_ 8 Try.func28 #[.agg #[.string a0_0, .slice A0_1 l0_1.length c0_1, .slice A0_2 l0_2.length c0_2]] ?_; (with_reducible refine (impl_SegOk.calls k a0_0 _ _ l0_1 _ _ l0_2 false _ ?side1 ?side2 ?side3 ?side4 A4.out).mono ?_); (case side1 => exact z_62 HR0_1.out HB.out); (case side2 => exact HC0_1.out); (case side3 => exact z_62 HR0_2.out HB.out); (case side4 => exact HC0_2.out); rintro e w14 ⟨rfl, hb⟩; refine ⟨_, rfl, ?_⟩; have n0_ := Aside0.mk (blk_below (g := gb319) (o := .cells #[.string a0_0, .slice A0_1 l0_1.length c0_1, .slice A0_2 l0_2.length c0_2] 27 (0, 0)) (z_7 BK319.out) hb); have n1_ := Aside0.mk (below_step (z_8 HB.out GE319.out) hb); clear BK319; clear HB; have BK319 := n0_; have HB := n1_; clear n0_ n1_; (try clear hb); (try clear hb2); (try clear hk); (try clear hi)))
  go_ret
  exact ⟨z_9, z_8 HB.out GE319.out⟩
mutual
def impl_Flat.l0 : Nat → List ByteArray → List Int → Int → List (S27) → Int → Int → Option (Int)
 | 0, _, _, _, _, _, _ => none
 | k + 1, x1, x2, x7, x15, x16, x17 => if x17 < x16 then (if 0 ≤ x17 then (if x17 < (x15.length : Int) then ((impl_Flat.f k ((rd_T27 x15 x17).f0) ((rd_T27 x15 x17).f1) ((rd_T27 x15 x17).f2) x1 x2).bind fun t326 => (impl_Flat.l0 k x1 x2 (wrap64 (x7 + t326)) x15 x16 (wrap64 (x17 + 1)))) else (none)) else (none)) else (some x7)
def impl_Flat.f : Nat → ByteArray → List ByteArray → List (S27) → List ByteArray → List Int → Option (Int)
 | 0, _, _, _, _, _ => none
 | k + 1, a0_0, l0_1, l0_2, l1, l2 => (impl_WordsIn.f k a0_0 l0_1 l0_2 l1 l2).bind fun t323 => (impl_Flat.l0 k l1 l2 t323 l0_2 (l0_2.length : Int) 0)
end
theorem impl_Flat.mono_l : ∀ k, (∀ y0 y1 y2 y3 y4, LeO (impl_Flat.f k y0 y1 y2 y3 y4) (impl_Flat.f (k + 1) y0 y1 y2 y3 y4)) ∧ (∀ y0 y1 y2 y3 y4 y5, LeO (impl_Flat.l0 k y0 y1 y2 y3 y4 y5) (impl_Flat.l0 (k + 1) y0 y1 y2 y3 y4 y5))
 | 0 => ⟨fun _ _ _ _ _ r h => by simp [impl_Flat.f] at h, fun _ _ _ _ _ _ r h => by simp [impl_Flat.l0] at h⟩
 | k + 1 => by
  obtain ⟨ih0, ih1⟩ := impl_Flat.mono_l k
  refine ⟨?_, ?_⟩
  ·intro y0 y1 y2 y3 y4
   unfold impl_Flat.f
   repeat' first
   | (with_reducible exact ih0 _ _ _ _ _)
   | (with_reducible exact ih1 _ _ _ _ _ _)
   | (with_reducible exact impl_WordsIn.mono _ _ _ _ _ _)
   | (with_reducible exact LeO.refl _)
   | (with_reducible exact LeO.none _)
   | (with_reducible refine LeO.ite ?_ ?_)
   | (with_reducible refine LeO.bind ?_ (fun _ => ?_))
   | exact ih0 _ _ _ _ _
   | exact ih1 _ _ _ _ _ _
   | exact impl_WordsIn.mono _ _ _ _ _ _
   | exact LeO.none _
   | refine LeO.ite ?_ ?_
   | refine LeO.bind ?_ (fun _ => ?_)
  ·intro y0 y1 y2 y3 y4 y5
   unfold impl_Flat.l0
   repeat' first
   | (with_reducible exact ih0 _ _ _ _ _)
   | (with_reducible exact ih1 _ _ _ _ _ _)
   | (with_reducible exact impl_WordsIn.mono _ _ _ _ _ _)
   | (with_reducible exact LeO.refl _)
   | (with_reducible exact LeO.none _)
   | (with_reducible refine LeO.ite ?_ ?_)
   | (with_reducible refine LeO.bind ?_ (fun _ => ?_))
   | exact ih0 _ _ _ _ _
   | exact ih1 _ _ _ _ _ _
   | exact impl_WordsIn.mono _ _ _ _ _ _
   | exact LeO.none _
   | refine LeO.ite ?_ ?_
   | refine LeO.bind ?_ (fun _ => ?_)
theorem impl_Flat.mono : ∀ a0 a1 a2 a3 a4 k, LeO (impl_Flat.f k a0 a1 a2 a3 a4) (impl_Flat.f (k + 1) a0 a1 a2 a3 a4) := by
 intro a0 a1 a2 a3 a4 k
 obtain ⟨ih0, ih1⟩ := impl_Flat.mono_l k
 exact ih0 a0 a1 a2 a3 a4
set_option maxHeartbeats 8000000 in
set_option maxRecDepth 100000 in
theorem impl_Flat.calls (k : Nat) : ∀ (a0_0 : ByteArray) (A0_1 : Option Addr) (c0_1 : Nat) (l0_1 : List ByteArray) (A0_2 : Option Addr) (c0_2 : Nat) (l0_2 : List (S27)) (A1 : Option Addr) (c1 : Nat) (l1 : List ByteArray) (A2 : Option Addr) (c2 : Nat) (l2 : List Int) (r : Int) (w : World) (hr0_1 : Kd.C Kd.string w A0_1 l0_1.length l0_1) (hc0_1 : l0_1.length ≤ c0_1) (hr0_2 : Kd.C k27 w A0_2 l0_2.length l0_2) (hc0_2 : l0_2.length ≤ c0_2) (hr1 : Kd.C Kd.string w A1 l1.length l1) (hc1 : l1.length ≤ c1) (hr2 : Kd.C (Kd.int .i64) w A2 l2.length l2) (hc2 : l2.length ≤ c2) (h : impl_Flat.f k a0_0 l0_1 l0_2 l1 l2 = some r),
 Calls Try.prog 13 #[.agg #[.string a0_0, .slice A0_1 l0_1.length c0_1, .slice A0_2 l0_2.length c0_2], .slice A1 l1.length c1, .slice A2 l2.length c2] w fun e w' => e = .returned (.int .i64 r) ∧ Below w.heap.size w w' := by
 induction k using Nat.strongRecOn with
 | _ k ih =>
 intro a0_0 A0_1 c0_1 l0_1 A0_2 c0_2 l0_2 A1 c1 l1 A2 c2 l2 r w hr0_1 hc0_1 hr0_2 hc0_2 hr1 hc1 hr2 hc2 h
 cases k with
 | zero => exact absurd h (by simp [impl_Flat.f])
 | succ k =>
 simp only [impl_Flat.f] at h
 have hu27 := Try.underlying27
 have HR0_1 := Aside0.mk hr0_1
 have HC0_1 := Aside0.mk hc0_1
 clear hr0_1 hc0_1
 have HR0_2 := Aside0.mk hr0_2
 have HC0_2 := Aside0.mk hc0_2
 clear hr0_2 hc0_2
 have HR1 := Aside0.mk hr1
 have HC1 := Aside0.mk hc1
 clear hr1 hc1
 have HR2 := Aside0.mk hr2
 have HC2 := Aside0.mk hc2
 clear hr2 hc2
 have HB := Aside0.mk (Below.refl w.heap.size w)
 have H : ((impl_WordsIn.f k a0_0 l0_1 l0_2 l1 l2).bind fun t323 => (impl_Flat.l0 k l1 l2 t323 l0_2 (l0_2.length : Int) 0)) = some r := h
 clear h
 replace H := Option.bind_eq_some_iff.mp H
 obtain ⟨t323, A40, H⟩ := H
 replace H : (impl_Flat.l0 k l1 l2 t323 l0_2 (l0_2.length : Int) 0) = some r := H
 have A4 := Aside0.mk A40
 clear A40
 have H' := Aside0.mk H
 clear H
 go_enter Try.func13, Try.ntmps13
 go_wp2_with (first | ((with_reducible refine gate_dst (N := 3) rfl ?_); refine box_event ?hg (N := 3) ?hd (cs := #[.string a0_0, .slice A0_1 l0_1.length c0_1, .slice A0_2 l0_2.length c0_2]) (t := 27) ?hr ?_; (case hd => rfl); (case hg => rfl); (case hr => first | (go_simp; done) | (go_simp; rfl)); intro gb322 hg w5 hbox hb; have n0_ := Aside0.mk (below_step (z_4 HB.out) hb); have n1_ := Aside0.mk (hbox); have n2_ := Aside0.mk ((z_6 HB.out : w.heap.size ≤ gb322)); have n3_ := Aside0.mk ((z_6 HB.out : w.heap.size ≤ gb322)); clear HB; have HB := n0_; have BK322 := n1_; have GW322 := n2_; have GE322 := n3_; clear n0_ n1_ n2_ n3_; clear hb hbox hg; have hcz6_0 : w5.cell? ⟨gb322, 0, none⟩ = some (.string a0_0) := (blk_cell BK322.out 0).trans rfl; have hcz6_1 : w5.cell? ⟨gb322, 1, none⟩ = some (.slice A0_1 l0_1.length c0_1) := (blk_cell BK322.out 1).trans rfl; have hcz6_2 : w5.cell? ⟨gb322, 2, none⟩ = some (.slice A0_2 l0_2.length c0_2) := (blk_cell BK322.out 2).trans rfl; have hfz6_0 := blk_frozen BK322.out 0; have hfz6_1 := blk_frozen BK322.out 1; have hfz6_2 := blk_frozen BK322.out 2) | ((with_reducible refine gate_callee (f := 22) rfl ?_); refine gl_ 13 Try.func22 #[.agg #[.string a0_0, .slice A0_1 l0_1.length c0_1, .slice A0_2 l0_2.length c0_2], .slice A1 l1.length c1, .slice A2 l2.length c2] ?_; (with_reducible refine (impl_WordsIn.calls k a0_0 _ _ l0_1 _ _ l0_2 _ _ l1 _ _ l2 t323 _ ?side1 ?side2 ?side3 ?side4 ?side5 ?side6 ?side7 ?side8 A4.out).mono ?_); (case side1 => exact z_62 HR0_1.out HB.out); (case side2 => exact HC0_1.out); (case side3 => exact z_62 HR0_2.out HB.out); (case side4 => exact HC0_2.out); (case side5 => exact z_62 HR1.out HB.out); (case side6 => exact HC1.out); (case side7 => exact z_62 HR2.out HB.out); (case side8 => exact HC2.out); rintro e w7 ⟨rfl, hb⟩; refine ⟨_, rfl, ?_⟩; have n0_ := Aside0.mk (blk_below (g := gb322) (o := .cells #[.string a0_0, .slice A0_1 l0_1.length c0_1, .slice A0_2 l0_2.length c0_2] 27 (0, 0)) (z_7 BK322.out) hb); have n1_ := Aside0.mk (below_step (z_8 HB.out GE322.out) hb); clear BK322; clear HB; have BK322 := n0_; have HB := n1_; clear n0_ n1_; (try clear hb); (try clear hb2); (try clear hk); (try clear hi); have hcz8_0 : w7.cell? ⟨gb322, 0, none⟩ = some (.string a0_0) := (blk_cell BK322.out 0).trans rfl; have hcz8_1 : w7.cell? ⟨gb322, 1, none⟩ = some (.slice A0_1 l0_1.length c0_1) := (blk_cell BK322.out 1).trans rfl; have hcz8_2 : w7.cell? ⟨gb322, 2, none⟩ = some (.slice A0_2 l0_2.length c0_2) := (blk_cell BK322.out 2).trans rfl; have hfz8_0 := blk_frozen BK322.out 0; have hfz8_1 := blk_frozen BK322.out 1; have hfz8_2 := blk_frozen BK322.out 2))
 go_loopg [7, 17] k (fun kq v7 v17 w' => ∃ (x7_1 : Int) (x17_1 : Int), v7 = .int .i64 x7_1 ∧ v17 = .int .i64 x17_1 ∧ Aside0 (impl_Flat.l0 kq l1 l2 x7_1 l0_2 (l0_2.length : Int) x17_1 = some r) ∧ Aside0 (kq ≤ k) ∧ Aside0 (w'.heap[gb322]? = some (.cells #[.string a0_0, (.slice A0_1 l0_1.length c0_1), (.slice A0_2 l0_2.length c0_2)] 27 (0, 0))) ∧ Aside0 (Below w.heap.size w w'))
 case atStart => exact ⟨(t323), (0), z_3, z_3, H', ⟨Nat.le_refl _⟩, ⟨z_7 BK322.out⟩, ⟨z_8 HB.out GE322.out⟩⟩
 case round =>
  clear H'
  try clear c1
  try clear c2
  try clear p2
  try clear hcz6_0
  try clear hcz6_1
  try clear hcz6_2
  try clear hcz8_0
  try clear hcz8_1
  try clear hcz8_2
  try clear hfz6_0
  try clear hfz6_1
  try clear hfz6_2
  try clear hfz8_0
  try clear hfz8_1
  try clear hfz8_2
  obtain ⟨x7_1, x17_1, rfl, rfl, HA, HK1, BK322, HB⟩ := hrel
  cases gk with
  | zero => exact absurd HA.out (by simp [impl_Flat.l0])
  | succ k1 =>
   have H := HA.out
   clear HA
   simp only [impl_Flat.l0] at H
   by_cases c9 : x17_1 < (l0_2.length : Int)
   ·rw [if_pos c9] at H
    have c9b0 : decide (x17_1 < (l0_2.length : Int)) = true := decide_eq_true c9
    clear c9
    by_cases c10 : 0 ≤ x17_1
    ·rw [if_pos c10] at H
     have c10b0 : decide (0 ≤ x17_1) = true := decide_eq_true c10
     clear c10
     by_cases c11 : x17_1 < (l0_2.length : Int)
     ·rw [if_pos c11] at H
      have c11b0 : decide (x17_1 < (l0_2.length : Int)) = true := decide_eq_true c11
      clear c11
      replace H := Option.bind_eq_some_iff.mp H
      obtain ⟨t326, A120, H⟩ := H
      replace H : (impl_Flat.l0 k1 l1 l2 (wrap64 (x7_1 + t326)) l0_2 (l0_2.length : Int) (wrap64 (x17_1 + 1))) = some r := H
      have A12 := Aside0.mk A120
      clear A120
      have H' := Aside0.mk H
      clear H
      have p324 : 0 ≤ (x17_1 : Int) := of_decide_eq_true z_5
      have q324 : x17_1 < (l0_2.length : Int) := of_decide_eq_true z_5
      obtain ⟨ad324, A324_1, c324_1, A324_2, c324_2, e324, hx324_0, hx324_1, hx324_2, hl324_1, hi324_1, hl324_2, hi324_2⟩ := at_T27 HR0_2.out x17_1 p324 q324
      cases e324
      replace hx324_0 := (HB.out.cell (World.block_lt_of_cell? w _ hx324_0)).trans hx324_0
      replace hx324_1 := (HB.out.cell (World.block_lt_of_cell? w _ hx324_1)).trans hx324_1
      replace hx324_2 := (HB.out.cell (World.block_lt_of_cell? w _ hx324_2)).trans hx324_2
      have HR324_1 := Aside0.mk hi324_1
      have HC324_1 := Aside0.mk hl324_1
      clear hi324_1 hl324_1
      have HR324_2 := Aside0.mk hi324_2
      have HC324_2 := Aside0.mk hl324_2
      clear hi324_2 hl324_2
      replace p324 := eq_true p324
      replace q324 := eq_true q324
      go_wp2_with (first | ((with_reducible refine gate_dst (N := 9) rfl ?_); refine box_event ?hg (N := 9) ?hd (cs := #[.string (⟨#[]⟩ : ByteArray), .slice none 0 0, .slice none 0 0]) (t := 27) ?hr ?_; (case hd => rfl); (case hg => rfl); (case hr => first | (go_simp; done) | (go_simp; rfl)); intro gb325 hg w13 hbox hb; have n0_ := Aside0.mk (blk_below (g := gb322) (o := .cells #[.string a0_0, .slice A0_1 l0_1.length c0_1, .slice (some ad324) l0_2.length c0_2] 27 (0, 0)) (z_7 BK322.out) hb); have n1_ := Aside0.mk (below_step (z_8 HB.out GE322.out) hb); have n2_ := Aside0.mk (hbox); have n3_ := Aside0.mk ((z_54 HB.out GE322.out : w.heap.size ≤ gb325)); have n4_ := Aside0.mk ((z_54 HB.out GE322.out : w.heap.size ≤ gb325)); have n5_ := Aside0.mk ((by rw [hg]; exact Nat.ne_of_lt (blk_lt (g := gb322) (o := .cells #[.string a0_0, .slice A0_1 l0_1.length c0_1, .slice (some ad324) l0_2.length c0_2] 27 (0, 0)) (z_7 BK322.out)) : gb322 ≠ gb325)); have n6_ := Aside0.mk ((by rw [hg]; exact Nat.ne_of_gt (blk_lt (g := gb322) (o := .cells #[.string a0_0, .slice A0_1 l0_1.length c0_1, .slice (some ad324) l0_2.length c0_2] 27 (0, 0)) (z_7 BK322.out)) : gb325 ≠ gb322)); clear BK322; clear HB; have BK322 := n0_; have HB := n1_; have BK325 := n2_; have GW325 := n3_; have GE325 := n4_; have NB322_325 := n5_; have NB325_322 := n6_; clear n0_ n1_ n2_ n3_ n4_ n5_ n6_; clear hb hbox hg; have hnb14 := NB325_322.out; have hnc14 := NB322_325.out; have hcz15_0 : w13.cell? ⟨gb325, 0, none⟩ = some (.string (⟨#[]⟩ : ByteArray)) := (blk_cell BK325.out 0).trans rfl; have hcz15_1 : w13.cell? ⟨gb325, 1, none⟩ = some (.slice none 0 0) := (blk_cell BK325.out 1).trans rfl; have hcz15_2 : w13.cell? ⟨gb325, 2, none⟩ = some (.slice none 0 0) := (blk_cell BK325.out 2).trans rfl; have hfz15_0 := blk_frozen BK325.out 0; have hfz15_1 := blk_frozen BK325.out 1; have hfz15_2 := blk_frozen BK325.out 2) | ((with_reducible refine gate_callee (f := 13) rfl ?_); refine gl_ 25 Try.func13 #[.agg #[.string ((rd_T27 l0_2 x17_1).f0), .slice A324_1 ((rd_T27 l0_2 x17_1).f1).length c324_1, .slice A324_2 ((rd_T27 l0_2 x17_1).f2).length c324_2], .slice A1 l1.length c1, .slice A2 l2.length c2] ?_; (with_reducible refine (ih k1 (by have := HK1.out; omega) ((rd_T27 l0_2 x17_1).f0) _ _ ((rd_T27 l0_2 x17_1).f1) _ _ ((rd_T27 l0_2 x17_1).f2) _ _ l1 _ _ l2 t326 _ ?side1 ?side2 ?side3 ?side4 ?side5 ?side6 ?side7 ?side8 A12.out).mono ?_); (case side1 => exact Kd.C_below HR324_1.out (z_55 HB.out GE322.out GE325.out)); (case side2 => exact HC324_1.out); (case side3 => exact Kd.C_below HR324_2.out (z_55 HB.out GE322.out GE325.out)); (case side4 => exact HC324_2.out); (case side5 => exact Kd.C_below HR1.out (z_55 HB.out GE322.out GE325.out)); (case side6 => exact HC1.out); (case side7 => exact Kd.C_below HR2.out (z_55 HB.out GE322.out GE325.out)); (case side8 => exact HC2.out); rintro e w16 ⟨rfl, hb⟩; refine ⟨_, rfl, ?_⟩; have n0_ := Aside0.mk (blk_below (g := gb322) (o := .cells #[.string a0_0, .slice A0_1 l0_1.length c0_1, .slice (some ad324) l0_2.length c0_2] 27 (0, 0)) (z_22 NB322_325.out BK322.out) hb); have n1_ := Aside0.mk (blk_below (g := gb325) (o := .cells #[.string ((rd_T27 l0_2 x17_1).f0), .slice A324_1 ((rd_T27 l0_2 x17_1).f1).length c324_1, .slice A324_2 ((rd_T27 l0_2 x17_1).f2).length c324_2] 27 (0, 0)) (by (with_reducible repeat (first | refine blk_drewN ?_ _ | refine blk_drew ?_ | refine blk_alloc ?_ _)); refine blk_put (cs := #[.string ((rd_T27 l0_2 x17_1).f0), .slice A324_1 ((rd_T27 l0_2 x17_1).f1).length c324_1, .slice none 0 0]) ?_ 2 _ rfl; (with_reducible repeat (first | refine blk_drewN ?_ _ | refine blk_drew ?_ | refine blk_alloc ?_ _)); refine blk_put (cs := #[.string ((rd_T27 l0_2 x17_1).f0), .slice none 0 0, .slice none 0 0]) ?_ 1 _ rfl; (with_reducible repeat (first | refine blk_drewN ?_ _ | refine blk_drew ?_ | refine blk_alloc ?_ _)); refine blk_put (cs := #[.string (⟨#[]⟩ : ByteArray), .slice none 0 0, .slice none 0 0]) ?_ 0 _ rfl; (with_reducible repeat (first | refine blk_drewN ?_ _ | refine blk_drew ?_ | refine blk_alloc ?_ _)); exact BK325.out) hb); have n2_ := Aside0.mk (below_step (z_55 HB.out GE322.out GE325.out) hb); clear BK322; clear BK325; clear HB; have BK322 := n0_; have BK325 := n1_; have HB := n2_; clear n0_ n1_ n2_; (try clear hb); (try clear hb2); (try clear hk); (try clear hi)))
      go_roundg k1
      case measure => have := HK1.out; omega
      case rel => exact ⟨(wrap64 (x7_1 + t326)), (wrap64 (x17_1 + 1)), z_3, z_3, H', ⟨by have := HK1.out; omega⟩, ⟨z_7 BK322.out⟩, ⟨z_55 HB.out GE322.out GE325.out⟩⟩
     ·rw [if_neg c11] at H
      exact absurd H (by simp)
    ·rw [if_neg c10] at H
     exact absurd H (by simp)
   ·rw [if_neg c9] at H
    have c9b0 : decide (x17_1 < (l0_2.length : Int)) = false := decide_eq_false c9
    clear c9
    obtain rfl := Option.some.inj H
    go_wp2
    go_ret
    exact ⟨z_9, z_8 HB.out GE322.out⟩
end Go.Proofs.Ytdphpmejjlgpnaa.PFnLaidOver
