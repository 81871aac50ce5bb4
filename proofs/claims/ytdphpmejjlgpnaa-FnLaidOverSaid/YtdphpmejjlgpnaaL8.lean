import Derived.Test.YtdphpmejjlgpnaaL0
import Derived.Test.YtdphpmejjlgpnaaLZ
namespace Go.Proofs.Ytdphpmejjlgpnaa.PFnLaidOver
open Go.RowKit Go.Proofs.YtdphpmejjlgpnaaW.PrintWords Go.Proofs.YtdphpmejjlgpnaaW.PrintLast Go.Proofs.YtdphpmejjlgpnaaW.PrintMore
attribute [local go_sem] max2_int min2_int max_two min_two max_three min_three max_four min_four
def laws_spanOf.l0 : Nat → List (S38) → ByteArray → Int → Option (ByteArray × Int × Int)
 | 0, _, _, _ => none
 | k + 1, x0, x1, x5 => if x5 < (x0.length : Int) then (if 0 ≤ x5 then (if ((rd_T38 x0 x5).f0).toList = x1.toList then (some ((rd_T38 x0 x5).f0, (rd_T38 x0 x5).f1, (rd_T38 x0 x5).f2)) else (laws_spanOf.l0 k x0 x1 (wrap64 (x5 + 1)))) else (none)) else (some ((⟨#[]⟩ : ByteArray), 0, 0))
def laws_spanOf.f (k : Nat) (l0 : List (S38)) (a1 : ByteArray) : Option (ByteArray × Int × Int) := laws_spanOf.l0 k l0 a1 0
theorem laws_spanOf.mono_l : ∀ k, (∀ y0 y1 y2, LeO (laws_spanOf.l0 k y0 y1 y2) (laws_spanOf.l0 (k + 1) y0 y1 y2))
 | 0 => fun _ _ _ r h => by simp [laws_spanOf.l0] at h
 | k + 1 => by
  have ih0 := laws_spanOf.mono_l k
  ·intro y0 y1 y2
   unfold laws_spanOf.l0
   repeat' first
   | (with_reducible exact ih0 _ _ _)
   | (with_reducible exact LeO.refl _)
   | (with_reducible exact LeO.none _)
   | (with_reducible refine LeO.ite ?_ ?_)
   | (with_reducible refine LeO.bind ?_ (fun _ => ?_))
   | exact ih0 _ _ _
   | exact LeO.none _
   | refine LeO.ite ?_ ?_
   | refine LeO.bind ?_ (fun _ => ?_)
theorem laws_spanOf.mono : ∀ a0 a1 k, LeO (laws_spanOf.f k a0 a1) (laws_spanOf.f (k + 1) a0 a1) := by
 intro a0 a1 k
 have ih0 := laws_spanOf.mono_l k
 unfold laws_spanOf.f
 repeat' first
  | (with_reducible exact ih0 _ _ _)
  | (with_reducible exact LeO.refl _)
  | (with_reducible exact LeO.none _)
  | (with_reducible refine LeO.ite ?_ ?_)
  | (with_reducible refine LeO.bind ?_ (fun _ => ?_))
  | exact ih0 _ _ _
  | exact LeO.none _
  | refine LeO.ite ?_ ?_
  | refine LeO.bind ?_ (fun _ => ?_)
set_option maxHeartbeats 8000000 in
set_option maxRecDepth 100000 in
theorem laws_spanOf.calls (k : Nat) (A0 : Option Addr) (c0 : Nat) (l0 : List (S38)) (a1 : ByteArray) (r1 : ByteArray) (r2 : Int) (r3 : Int) (w : World) (hr0 : Kd.C k38 w A0 l0.length l0) (hc0 : l0.length ≤ c0) (h : laws_spanOf.f k l0 a1 = some (r1, r2, r3)) :
 Calls Try.prog 34 #[.slice A0 l0.length c0, .string a1] w fun e w' => e = .returned (.agg #[.string r1, .int .i64 r2, .int .i64 r3]) ∧ Below w.heap.size w w' := by
 have hu38 := Try.underlying38
 have HR0 := Aside0.mk hr0
 have HC0 := Aside0.mk hc0
 clear hr0 hc0
 have HB := Aside0.mk (Below.refl w.heap.size w)
 have H : (laws_spanOf.l0 k l0 a1 0) = some (r1, r2, r3) := h
 clear h
 have H' := Aside0.mk H
 clear H
 go_enter Try.func34, Try.ntmps34
 go_wp2_with (first | ((with_reducible refine gate_dst (N := 4) rfl ?_); refine box_event ?hg (N := 4) ?hd (cs := #[.string (⟨#[]⟩ : ByteArray), .int .i64 0, .int .i64 0]) (t := 38) ?hr ?_; (case hd => rfl); (case hg => rfl); (case hr => first | (go_simp; done) | (go_simp; rfl)); intro gb327 hg w3 hbox hb; have n0_ := Aside0.mk (below_step (z_4 HB.out) hb); have n1_ := Aside0.mk (hbox); have n2_ := Aside0.mk ((z_6 HB.out : w.heap.size ≤ gb327)); have n3_ := Aside0.mk ((z_6 HB.out : w.heap.size ≤ gb327)); clear HB; have HB := n0_; have BK327 := n1_; have GW327 := n2_; have GE327 := n3_; clear n0_ n1_ n2_ n3_; clear hb hbox hg))
 go_loopg [5] k (fun kq v5 w' => ∃ (x5_1 : Int) (x328000_1 : ByteArray) (x328001_1 : Int) (x328002_1 : Int), v5 = .int .i64 x5_1 ∧ Aside0 (laws_spanOf.l0 kq l0 a1 x5_1 = some (r1, r2, r3)) ∧ Aside0 (kq ≤ k) ∧ Aside0 (w'.heap[gb327]? = some (.cells #[.string x328000_1, .int .i64 x328001_1, .int .i64 x328002_1] 38 (0, 0))) ∧ Aside0 (Below w.heap.size w w'))
 case atStart => exact ⟨(0), ((⟨#[]⟩ : ByteArray)), (0), (0), z_3, H', ⟨Nat.le_refl _⟩, ⟨z_7 BK327.out⟩, ⟨z_8 HB.out GE327.out⟩⟩
 case round =>
  clear H'
  try clear p2
  try clear c3
  obtain ⟨x5_1, x328000_1, x328001_1, x328002_1, rfl, HA, HK1, BK327, HB⟩ := hrel
  cases gk with
  | zero => exact absurd HA.out (by simp [laws_spanOf.l0])
  | succ k1 =>
   have H := HA.out
   clear HA
   simp only [laws_spanOf.l0] at H
   by_cases c4 : x5_1 < (l0.length : Int)
   ·rw [if_pos c4] at H
    have c4b0 : decide (x5_1 < (l0.length : Int)) = true := decide_eq_true c4
    clear c4
    by_cases c5 : 0 ≤ x5_1
    ·rw [if_pos c5] at H
     have c5b0 : decide (0 ≤ x5_1) = true := decide_eq_true c5
     clear c5
     by_cases c6 : ((rd_T38 l0 x5_1).f0).toList = a1.toList
     ·rw [if_pos c6] at H
      have c6b0 : (((rd_T38 l0 x5_1).f0).toList == a1.toList) = true := beq_iff_eq.mpr c6
      have c6b1 : (((rd_T38 l0 x5_1).f0).toList != a1.toList) = false := bne_eq_false_iff_eq.mpr c6
      clear c6
      simp only [Option.some.injEq, Prod.mk.injEq] at H
      obtain ⟨rfl, rfl, rfl⟩ := H
      have p328 : 0 ≤ (x5_1 : Int) := of_decide_eq_true z_5
      have q328 : x5_1 < (l0.length : Int) := of_decide_eq_true z_5
      obtain ⟨ad328, e328, hx328_0, hx328_1, hx328_2⟩ := at_T38 HR0.out x5_1 p328 q328
      cases e328
      replace hx328_0 := (HB.out.cell (World.block_lt_of_cell? w _ hx328_0)).trans hx328_0
      replace hx328_1 := (HB.out.cell (World.block_lt_of_cell? w _ hx328_1)).trans hx328_1
      replace hx328_2 := (HB.out.cell (World.block_lt_of_cell? w _ hx328_2)).trans hx328_2
      replace p328 := eq_true p328
      replace q328 := eq_true q328
      have p329 : 0 ≤ (x5_1 : Int) := of_decide_eq_true z_5
      have q329 : x5_1 < (l0.length : Int) := of_decide_eq_true z_5
      obtain ⟨ad329, e329, hx329_0, hx329_1, hx329_2⟩ := at_T38 HR0.out x5_1 p329 q329
      obtain rfl : ad328 = ad329 := (by injection e329)
      replace hx329_0 := (HB.out.cell (World.block_lt_of_cell? w _ hx329_0)).trans hx329_0
      replace hx329_1 := (HB.out.cell (World.block_lt_of_cell? w _ hx329_1)).trans hx329_1
      replace hx329_2 := (HB.out.cell (World.block_lt_of_cell? w _ hx329_2)).trans hx329_2
      replace p329 := eq_true p329
      replace q329 := eq_true q329
      have hcz7_0 : wr.cell? ⟨gb327, 0, none⟩ = some (.string x328000_1) := (blk_cell BK327.out 0).trans rfl
      have hcz7_1 : wr.cell? ⟨gb327, 1, none⟩ = some (.int .i64 x328001_1) := (blk_cell BK327.out 1).trans rfl
      have hcz7_2 : wr.cell? ⟨gb327, 2, none⟩ = some (.int .i64 x328002_1) := (blk_cell BK327.out 2).trans rfl
      have hfz7_0 := blk_frozen BK327.out 0
      have hfz7_1 := blk_frozen BK327.out 1
      have hfz7_2 := blk_frozen BK327.out 2
      go_wp2
      refine bodyPost_ret (results_cell_row rfl _ _ gb327 38 #[.string ((rd_T38 l0 x5_1).f0), .int .i64 ((rd_T38 l0 x5_1).f1), .int .i64 ((rd_T38 l0 x5_1).f2)] (0, 0) _ rfl (by (with_reducible repeat (first | refine blk_drewN ?_ _ | refine blk_drew ?_ | refine blk_alloc ?_ _)); refine blk_put (cs := #[.string ((rd_T38 l0 x5_1).f0), .int .i64 ((rd_T38 l0 x5_1).f1), .int .i64 x328002_1]) ?_ 2 _ rfl; (with_reducible repeat (first | refine blk_drewN ?_ _ | refine blk_drew ?_ | refine blk_alloc ?_ _)); refine blk_put (cs := #[.string ((rd_T38 l0 x5_1).f0), .int .i64 x328001_1, .int .i64 x328002_1]) ?_ 1 _ rfl; (with_reducible repeat (first | refine blk_drewN ?_ _ | refine blk_drew ?_ | refine blk_alloc ?_ _)); refine blk_put (cs := #[.string x328000_1, .int .i64 x328001_1, .int .i64 x328002_1]) ?_ 0 _ rfl; (with_reducible repeat (first | refine blk_drewN ?_ _ | refine blk_drew ?_ | refine blk_alloc ?_ _)); exact BK327.out) Try.underlying38 rfl (by kernel_rfl)) rfl ?_
      exact ⟨z_9, z_8 HB.out GE327.out⟩
     ·rw [if_neg c6] at H
      have c6b0 : (((rd_T38 l0 x5_1).f0).toList == a1.toList) = false := beq_eq_false_iff_ne.mpr c6
      have c6b1 : (((rd_T38 l0 x5_1).f0).toList != a1.toList) = true := bne_iff_ne.mpr c6
      have H' := Aside0.mk H
      clear H
      have p328 : 0 ≤ (x5_1 : Int) := of_decide_eq_true z_5
      have q328 : x5_1 < (l0.length : Int) := of_decide_eq_true z_5
      obtain ⟨ad328, e328, hx328_0, hx328_1, hx328_2⟩ := at_T38 HR0.out x5_1 p328 q328
      cases e328
      replace hx328_0 := (HB.out.cell (World.block_lt_of_cell? w _ hx328_0)).trans hx328_0
      replace hx328_1 := (HB.out.cell (World.block_lt_of_cell? w _ hx328_1)).trans hx328_1
      replace hx328_2 := (HB.out.cell (World.block_lt_of_cell? w _ hx328_2)).trans hx328_2
      replace p328 := eq_true p328
      replace q328 := eq_true q328
      go_wp2
      go_roundg k1
      case measure => have := HK1.out; omega
      case rel => exact ⟨(wrap64 (x5_1 + 1)), (x328000_1), (x328001_1), (x328002_1), z_3, H', ⟨by have := HK1.out; omega⟩, ⟨z_7 BK327.out⟩, ⟨z_8 HB.out GE327.out⟩⟩
    ·rw [if_neg c5] at H
     exact absurd H (by simp)
   ·rw [if_neg c4] at H
    have c4b0 : decide (x5_1 < (l0.length : Int)) = false := decide_eq_false c4
    clear c4
    simp only [Option.some.injEq, Prod.mk.injEq] at H
    obtain ⟨rfl, rfl, rfl⟩ := H
    have hcz8_0 : wr.cell? ⟨gb327, 0, none⟩ = some (.string x328000_1) := (blk_cell BK327.out 0).trans rfl
    have hcz8_1 : wr.cell? ⟨gb327, 1, none⟩ = some (.int .i64 x328001_1) := (blk_cell BK327.out 1).trans rfl
    have hcz8_2 : wr.cell? ⟨gb327, 2, none⟩ = some (.int .i64 x328002_1) := (blk_cell BK327.out 2).trans rfl
    have hfz8_0 := blk_frozen BK327.out 0
    have hfz8_1 := blk_frozen BK327.out 1
    have hfz8_2 := blk_frozen BK327.out 2
    go_wp2
    refine bodyPost_ret (results_cell_row rfl _ _ gb327 38 #[.string (⟨#[]⟩ : ByteArray), .int .i64 0, .int .i64 0] (0, 0) _ rfl (by (with_reducible repeat (first | refine blk_drewN ?_ _ | refine blk_drew ?_ | refine blk_alloc ?_ _)); refine blk_put (cs := #[.string (⟨#[]⟩ : ByteArray), .int .i64 0, .int .i64 x328002_1]) ?_ 2 _ rfl; (with_reducible repeat (first | refine blk_drewN ?_ _ | refine blk_drew ?_ | refine blk_alloc ?_ _)); refine blk_put (cs := #[.string (⟨#[]⟩ : ByteArray), .int .i64 x328001_1, .int .i64 x328002_1]) ?_ 1 _ rfl; (with_reducible repeat (first | refine blk_drewN ?_ _ | refine blk_drew ?_ | refine blk_alloc ?_ _)); refine blk_put (cs := #[.string x328000_1, .int .i64 x328001_1, .int .i64 x328002_1]) ?_ 0 _ rfl; (with_reducible repeat (first | refine blk_drewN ?_ _ | refine blk_drew ?_ | refine blk_alloc ?_ _)); exact BK327.out) Try.underlying38 rfl (by kernel_rfl)) rfl ?_
    exact ⟨z_9, z_8 HB.out GE327.out⟩
end Go.Proofs.Ytdphpmejjlgpnaa.PFnLaidOver
