import Derived.Test.YtdphpmejjlgpnaaL0
import Derived.Test.YtdphpmejjlgpnaaL8
import Derived.Test.YtdphpmejjlgpnaaLZ
namespace Go.Proofs.Ytdphpmejjlgpnaa.PFnLaidOver
open Go.RowKit Go.Proofs.YtdphpmejjlgpnaaW.PrintWords Go.Proofs.YtdphpmejjlgpnaaW.PrintLast Go.Proofs.YtdphpmejjlgpnaaW.PrintMore
attribute [local go_sem] max2_int min2_int max_two min_two max_three min_three max_four min_four
mutual
def laws_together.l0 : Nat → List (S38) → Int → ByteArray → List ByteArray → List (S27) → Option (Bool)
 | 0, _, _, _, _, _ => none
 | k + 1, x0, x5, x331000, x331001, x331002 => if x5 < (x331002.length : Int) then (if 0 ≤ x5 then ((laws_spanOf.f k x0 ((rd_T27 x331002 x5).f0)).bind fun bt332 => ((laws_spanOf.f k x0 x331000).bind fun bt335 => (if bt332.2.1 = bt335.2.2 then ((laws_together.f k x0 ((rd_T27 x331002 x5).f0) ((rd_T27 x331002 x5).f1) ((rd_T27 x331002 x5).f2)).bind fun t338 => (if t338 = true then (laws_together.l0 k x0 (wrap64 (x5 + 1)) x331000 x331001 x331002) else (some false))) else (some false)))) else (none)) else (some true)
def laws_together.f : Nat → List (S38) → ByteArray → List ByteArray → List (S27) → Option (Bool)
 | 0, _, _, _, _ => none
 | k + 1, l0, a1_0, l1_1, l1_2 => laws_together.l0 k l0 0 a1_0 l1_1 l1_2
end
theorem laws_together.mono_l : ∀ k, (∀ y0 y1 y2 y3, LeO (laws_together.f k y0 y1 y2 y3) (laws_together.f (k + 1) y0 y1 y2 y3)) ∧ (∀ y0 y1 y2 y3 y4, LeO (laws_together.l0 k y0 y1 y2 y3 y4) (laws_together.l0 (k + 1) y0 y1 y2 y3 y4))
 | 0 => ⟨fun _ _ _ _ r h => by simp [laws_together.f] at h, fun _ _ _ _ _ r h => by simp [laws_together.l0] at h⟩
 | k + 1 => by
  obtain ⟨ih0, ih1⟩ := laws_together.mono_l k
  refine ⟨?_, ?_⟩
  ·intro y0 y1 y2 y3
   unfold laws_together.f
   repeat' first
   | (with_reducible exact ih0 _ _ _ _)
   | (with_reducible exact ih1 _ _ _ _ _)
   | (with_reducible exact laws_spanOf.mono _ _ _)
   | (with_reducible exact LeO.refl _)
   | (with_reducible exact LeO.none _)
   | (with_reducible refine LeO.ite ?_ ?_)
   | (with_reducible refine LeO.bind ?_ (fun _ => ?_))
   | exact ih0 _ _ _ _
   | exact ih1 _ _ _ _ _
   | exact laws_spanOf.mono _ _ _
   | exact LeO.none _
   | refine LeO.ite ?_ ?_
   | refine LeO.bind ?_ (fun _ => ?_)
  ·intro y0 y1 y2 y3 y4
   unfold laws_together.l0
   repeat' first
   | (with_reducible exact ih0 _ _ _ _)
   | (with_reducible exact ih1 _ _ _ _ _)
   | (with_reducible exact laws_spanOf.mono _ _ _)
   | (with_reducible exact LeO.refl _)
   | (with_reducible exact LeO.none _)
   | (with_reducible refine LeO.ite ?_ ?_)
   | (with_reducible refine LeO.bind ?_ (fun _ => ?_))
   | exact ih0 _ _ _ _
   | exact ih1 _ _ _ _ _
   | exact laws_spanOf.mono _ _ _
   | exact LeO.none _
   | refine LeO.ite ?_ ?_
   | refine LeO.bind ?_ (fun _ => ?_)
theorem laws_together.mono : ∀ a0 a1 a2 a3 k, LeO (laws_together.f k a0 a1 a2 a3) (laws_together.f (k + 1) a0 a1 a2 a3) := by
 intro a0 a1 a2 a3 k
 obtain ⟨ih0, ih1⟩ := laws_together.mono_l k
 exact ih0 a0 a1 a2 a3
def laws_together.T4 : Bool × List (List Nat × List Nat) := (true, [([], []), ([], []), ([1], [1]), ([], []), ([2, 3], [2, 3]), ([4], [4]), ([5], [5]), ([0, 6], [0, 6]), ([7], [7]), ([], []), ([], []), ([10], [10]), ([9, 11, 7], [9, 11]), ([12], [12]), ([8, 13], [8, 13]), ([14, 12], [14]), ([15], [15]), ([15], [15]), ([17, 15], [15, 17]), ([15], [15]), ([18, 19, 15], [15, 18, 19]), ([20, 15], [15, 20]), ([16, 21, 15, 15], [15, 16, 21]), ([22, 15], [15, 22]), ([15, 23], [15, 23])])
def laws_together.B4 : List Nat := [0, 0, 2, 0, 14, 30, 62, 127, 255, 0, 0, 1024, 3839, 7935, 16383, 32767, 65535, 65535, 196607, 65535, 983039, 2031615, 4194303, 8388607, 16777215]
theorem laws_together.tab4 : rtab .any (opsOf Try.f14 4) = laws_together.T4 := by kernel_rfl
theorem laws_together.bits4 : waitsOk laws_together.T4.2 laws_together.B4 = true := by kernel_rfl
set_option maxHeartbeats 8000000 in
set_option maxRecDepth 100000 in
theorem laws_together.calls (k : Nat) : ∀ (A0 : Option Addr) (c0 : Nat) (l0 : List (S38)) (a1_0 : ByteArray) (A1_1 : Option Addr) (c1_1 : Nat) (l1_1 : List ByteArray) (A1_2 : Option Addr) (c1_2 : Nat) (l1_2 : List (S27)) (r : Bool) (w : World) (hr0 : Kd.C k38 w A0 l0.length l0) (hc0 : l0.length ≤ c0) (hr1_1 : Kd.C Kd.string w A1_1 l1_1.length l1_1) (hc1_1 : l1_1.length ≤ c1_1) (hr1_2 : Kd.C k27 w A1_2 l1_2.length l1_2) (hc1_2 : l1_2.length ≤ c1_2) (h : laws_together.f k l0 a1_0 l1_1 l1_2 = some r),
 Calls Try.prog 14 #[.slice A0 l0.length c0, .agg #[.string a1_0, .slice A1_1 l1_1.length c1_1, .slice A1_2 l1_2.length c1_2]] w fun e w' => e = .returned (.bool r) ∧ Below w.heap.size w w' := by
 induction k using Nat.strongRecOn with
 | _ k ih =>
 intro A0 c0 l0 a1_0 A1_1 c1_1 l1_1 A1_2 c1_2 l1_2 r w hr0 hc0 hr1_1 hc1_1 hr1_2 hc1_2 h
 cases k with
 | zero => exact absurd h (by simp [laws_together.f])
 | succ k =>
 simp only [laws_together.f] at h
 have hu27 := Try.underlying27
 have hf38_1 : ∀ (u0 u1 u2 : Value) (W : World), (Instr.field 38 (.agg #[u0, u1, u2]) 1).run Try.prog W = .ok u1 W := by intros; simp [Instr.field, go_sem, asAgg]
 have hf38_2 : ∀ (u0 u1 u2 : Value) (W : World), (Instr.field 38 (.agg #[u0, u1, u2]) 2).run Try.prog W = .ok u2 W := by intros; simp [Instr.field, go_sem, asAgg]
 have HR0 := Aside0.mk hr0
 have HC0 := Aside0.mk hc0
 clear hr0 hc0
 have HR1_1 := Aside0.mk hr1_1
 have HC1_1 := Aside0.mk hc1_1
 clear hr1_1 hc1_1
 have HR1_2 := Aside0.mk hr1_2
 have HC1_2 := Aside0.mk hc1_2
 clear hr1_2 hc1_2
 have HB := Aside0.mk (Below.refl w.heap.size w)
 have H : (laws_together.l0 k l0 0 a1_0 l1_1 l1_2) = some r := h
 clear h
 have H' := Aside0.mk H
 clear H
 go_enter Try.func14, Try.ntmps14
 go_wp2_with (first | ((with_reducible refine gate_dst (N := 3) rfl ?_); refine box_event ?hg (N := 3) ?hd (cs := #[.string a1_0, .slice A1_1 l1_1.length c1_1, .slice A1_2 l1_2.length c1_2]) (t := 27) ?hr ?_; (case hd => rfl); (case hg => rfl); (case hr => first | (go_simp; done) | (go_simp; rfl)); intro gb330 hg w3 hbox hb; have n0_ := Aside0.mk (below_step (z_4 HB.out) hb); have n1_ := Aside0.mk (hbox); have n2_ := Aside0.mk ((z_6 HB.out : w.heap.size ≤ gb330)); have n3_ := Aside0.mk ((z_6 HB.out : w.heap.size ≤ gb330)); clear HB; have HB := n0_; have BK330 := n1_; have GW330 := n2_; have GE330 := n3_; clear n0_ n1_ n2_ n3_; clear hb hbox hg))
 go_loopg [5] k (fun kq v5 w' => ∃ (x5_1 : Int), v5 = .int .i64 x5_1 ∧ Aside0 (laws_together.l0 kq l0 x5_1 a1_0 l1_1 l1_2 = some r) ∧ Aside0 (kq ≤ k) ∧ Aside0 (w'.heap[gb330]? = some (.cells #[.string a1_0, (.slice A1_1 l1_1.length c1_1), (.slice A1_2 l1_2.length c1_2)] 27 (0, 0))) ∧ Aside0 (Below w.heap.size w w'))
 case atStart => exact ⟨(0), z_3, H', ⟨Nat.le_refl _⟩, ⟨z_7 BK330.out⟩, ⟨z_8 HB.out GE330.out⟩⟩
 case round =>
  clear H'
  try clear c1
  try clear p2
  obtain ⟨x5_1, rfl, HA, HK1, BK330, HB⟩ := hrel
  cases gk with
  | zero => exact absurd HA.out (by simp [laws_together.l0])
  | succ k1 =>
   have H := HA.out
   clear HA
   simp only [laws_together.l0] at H
   by_cases c4 : x5_1 < (l1_2.length : Int)
   ·rw [if_pos c4] at H
    have c4b0 : decide (x5_1 < (l1_2.length : Int)) = true := decide_eq_true c4
    clear c4
    by_cases c5 : 0 ≤ x5_1
    ·rw [if_pos c5] at H
     have c5b0 : decide (0 ≤ x5_1) = true := decide_eq_true c5
     clear c5
     replace H := Option.bind_eq_some_iff.mp H
     obtain ⟨⟨t332, t333, t334⟩, A60, H⟩ := H
     replace H : ((laws_spanOf.f k1 l0 a1_0).bind fun bt335 => (if t333 = bt335.2.2 then ((laws_together.f k1 l0 ((rd_T27 l1_2 x5_1).f0) ((rd_T27 l1_2 x5_1).f1) ((rd_T27 l1_2 x5_1).f2)).bind fun t338 => (if t338 = true then (laws_together.l0 k1 l0 (wrap64 (x5_1 + 1)) a1_0 l1_1 l1_2) else (some false))) else (some false))) = some r := H
     have A6 := Aside0.mk A60
     clear A60
     replace H := Option.bind_eq_some_iff.mp H
     obtain ⟨⟨t335, t336, t337⟩, A70, H⟩ := H
     replace H : (if t333 = t337 then ((laws_together.f k1 l0 ((rd_T27 l1_2 x5_1).f0) ((rd_T27 l1_2 x5_1).f1) ((rd_T27 l1_2 x5_1).f2)).bind fun t338 => (if t338 = true then (laws_together.l0 k1 l0 (wrap64 (x5_1 + 1)) a1_0 l1_1 l1_2) else (some false))) else (some false)) = some r := H
     have A7 := Aside0.mk A70
     clear A70
     by_cases c8 : t333 = t337
     ·rw [if_pos c8] at H
      have c8b0 : (t333 == t337) = true := beq_iff_eq.mpr c8
      have c8b1 : (t333 != t337) = false := bne_eq_false_iff_eq.mpr c8
      clear c8
      replace H := Option.bind_eq_some_iff.mp H
      obtain ⟨t338, A100, H⟩ := H
      replace H : (if t338 = true then (laws_together.l0 k1 l0 (wrap64 (x5_1 + 1)) a1_0 l1_1 l1_2) else (some false)) = some r := H
      have A10 := Aside0.mk A100
      clear A100
      by_cases c11 : t338 = true
      ·subst c11
       have H1 : (laws_together.l0 k1 l0 (wrap64 (x5_1 + 1)) a1_0 l1_1 l1_2) = some r := by rw [if_pos rfl] at H; exact H
       clear H
       have H := H1
       clear H1
       have H' := Aside0.mk H
       clear H
       have hcz12_0 : wr.cell? ⟨gb330, 0, none⟩ = some (.string a1_0) := (blk_cell BK330.out 0).trans rfl
       have hcz12_1 : wr.cell? ⟨gb330, 1, none⟩ = some (.slice A1_1 l1_1.length c1_1) := (blk_cell BK330.out 1).trans rfl
       have hcz12_2 : wr.cell? ⟨gb330, 2, none⟩ = some (.slice A1_2 l1_2.length c1_2) := (blk_cell BK330.out 2).trans rfl
       have hfz12_0 := blk_frozen BK330.out 0
       have hfz12_1 := blk_frozen BK330.out 1
       have hfz12_2 := blk_frozen BK330.out 2
       try go_wp2
       have n0_ := Aside0.mk (blk_drew BK330.out)
       have n1_ := Aside0.mk (below_drew1 HB.out)
       clear BK330
       clear HB
       have BK330 := n0_
       have HB := n1_
       clear n0_ n1_
       have p331 : 0 ≤ (x5_1 : Int) := of_decide_eq_true z_5
       have q331 : x5_1 < (l1_2.length : Int) := of_decide_eq_true z_5
       obtain ⟨ad331, A331_1, c331_1, A331_2, c331_2, e331, hx331_0, hx331_1, hx331_2, hl331_1, hi331_1, hl331_2, hi331_2⟩ := at_T27 HR1_2.out x5_1 p331 q331
       have hw331_2 := hx331_2
       have hw331_1 := hx331_1
       have hw331_0 := hx331_0
       cases e331
       replace hx331_0 := (HB.out.cell (World.block_lt_of_cell? w _ hx331_0)).trans hx331_0
       replace hx331_1 := (HB.out.cell (World.block_lt_of_cell? w _ hx331_1)).trans hx331_1
       replace hx331_2 := (HB.out.cell (World.block_lt_of_cell? w _ hx331_2)).trans hx331_2
       have HR331_1 := Aside0.mk hi331_1
       have HC331_1 := Aside0.mk hl331_1
       clear hi331_1 hl331_1
       have HR331_2 := Aside0.mk hi331_2
       have HC331_2 := Aside0.mk hl331_2
       clear hi331_2 hl331_2
       replace p331 := eq_true p331
       replace q331 := eq_true q331
       refine st_ 25 (fun w' => w'.cell? ⟨gb330, 0, none⟩ = some (.string a1_0) ∧ w'.cell? ⟨gb330, 1, none⟩ = some (.slice A1_1 l1_1.length c1_1) ∧ w'.cell? ⟨gb330, 2, none⟩ = some (.slice (some ad331) l1_2.length c1_2) ∧ w'.cell? (ad331.add ((x5_1).toNat * 3)) = some (.string ((rd_T27 l1_2 x5_1).f0)) ∧ w'.cell? ⟨(ad331.add ((x5_1).toNat * 3)).block, (ad331.add ((x5_1).toNat * 3)).off + 1, none⟩ = some (.slice A331_1 ((rd_T27 l1_2 x5_1).f1).length c331_1) ∧ w'.cell? ⟨(ad331.add ((x5_1).toNat * 3)).block, (ad331.add ((x5_1).toNat * 3)).off + 2, none⟩ = some (.slice A331_2 ((rd_T27 l1_2 x5_1).f2).length c331_2)) [] ⟨(blk_cell BK330.out 0).trans rfl, (blk_cell BK330.out 1).trans rfl, (blk_cell BK330.out 2).trans rfl, ((HB.out.cell (World.block_lt_of_cell? w _ hw331_0)).trans hw331_0), ((HB.out.cell (World.block_lt_of_cell? w _ hw331_1)).trans hw331_1), ((HB.out.cell (World.block_lt_of_cell? w _ hw331_2)).trans hw331_2)⟩ (fun hHeld => ?_); refine with_tabW laws_together.tab4 laws_together.bits4 (fun HT_ HW_ => ?_)
       generalize wr.drew = w13 at BK330 HB HR331_1 HR331_2 hx331_0 hx331_1 hx331_2 hHeld ⊢
       refine go_ ?_ [0, 1, 3, 9, 10, 1002, 4, 5, 1006, 1011] ?_
       refine on_ 7 20 (fun K hK => ?_)
       refine gs_ Try.func34 #[.slice A0 l0.length c0, .string ((rd_T27 l1_2 x5_1).f0)] ?_
       with_reducible refine (laws_spanOf.calls k1 _ _ l0 ((rd_T27 l1_2 x5_1).f0) t332 t333 t334 _ ?side1 ?side2 A6.out).mono ?_
       (case side1 => exact z_62 HR0.out HB.out)
       (case side2 => exact HC0.out)
       rintro e w14 ⟨rfl, hb⟩
       refine ⟨_, rfl, ?_⟩
       have n0_ := Aside0.mk (blk_below (g := gb330) (o := .cells #[.string a1_0, .slice A1_1 l1_1.length c1_1, .slice (some ad331) l1_2.length c1_2] 27 (0, 0)) (z_7 BK330.out) hb)
       have n1_ := Aside0.mk (below_step (z_8 HB.out GE330.out) hb)
       clear BK330
       clear HB
       have BK330 := n0_
       have HB := n1_
       clear n0_ n1_
       (try clear hb)
       (try clear hb2)
       (try clear hk)
       (try clear hi)
       refine hK.out _ _ ⟨(blk_cell BK330.out 0).trans rfl, (blk_cell BK330.out 1).trans rfl, (blk_cell BK330.out 2).trans rfl, ((HB.out.cell (World.block_lt_of_cell? w _ hw331_0)).trans hw331_0), ((HB.out.cell (World.block_lt_of_cell? w _ hw331_1)).trans hw331_1), ((HB.out.cell (World.block_lt_of_cell? w _ hw331_2)).trans hw331_2)⟩ (fun hHeld => ?_)
       clear hK K
       refine nm_ ?_
       refine go_ ?_ [8] ?_
       refine on_ 12 25 (fun K hK => ?_)
       refine gs_ Try.func34 #[.slice A0 l0.length c0, .string a1_0] ?_
       with_reducible refine (laws_spanOf.calls k1 _ _ l0 a1_0 t335 t336 t337 _ ?side1 ?side2 A7.out).mono ?_
       (case side1 => exact z_62 HR0.out HB.out)
       (case side2 => exact HC0.out)
       rintro e w15 ⟨rfl, hb⟩
       refine ⟨_, rfl, ?_⟩
       have n0_ := Aside0.mk (blk_below (g := gb330) (o := .cells #[.string a1_0, .slice A1_1 l1_1.length c1_1, .slice (some ad331) l1_2.length c1_2] 27 (0, 0)) (z_7 BK330.out) hb)
       have n1_ := Aside0.mk (below_step (z_8 HB.out GE330.out) hb)
       clear BK330
       clear HB
       have BK330 := n0_
       have HB := n1_
       clear n0_ n1_
       (try clear hb)
       (try clear hb2)
       (try clear hk)
       (try clear hi)
       have p9 : 0 ≤ (x5_1 : Int) := of_decide_eq_true z_5
       have q9 : (x5_1 : Int) < ((l1_2.length : Int) : Int) := of_decide_eq_true z_5
       replace p9 := eq_true p9
       replace q9 := eq_true q9
       refine hK.out _ _ ⟨(blk_cell BK330.out 0).trans rfl, (blk_cell BK330.out 1).trans rfl, (blk_cell BK330.out 2).trans rfl, ((HB.out.cell (World.block_lt_of_cell? w _ hw331_0)).trans hw331_0), ((HB.out.cell (World.block_lt_of_cell? w _ hw331_1)).trans hw331_1), ((HB.out.cell (World.block_lt_of_cell? w _ hw331_2)).trans hw331_2)⟩ (fun hHeld => ?_)
       clear hK K
       refine nm_ ?_
       refine go_ ?_ [13, 14, 15, 16, 17, 19, 1018, 20, 1021] ?_
       refine on_ 22 35 (fun K hK => ?_)
       refine gs_ Try.func14 #[.slice A0 l0.length c0, .agg #[.string ((rd_T27 l1_2 x5_1).f0), .slice A331_1 ((rd_T27 l1_2 x5_1).f1).length c331_1, .slice A331_2 ((rd_T27 l1_2 x5_1).f2).length c331_2]] ?_
       with_reducible refine (ih k1 (by have := HK1.out; omega) _ _ l0 ((rd_T27 l1_2 x5_1).f0) _ _ ((rd_T27 l1_2 x5_1).f1) _ _ ((rd_T27 l1_2 x5_1).f2) true _ ?side1 ?side2 ?side3 ?side4 ?side5 ?side6 A10.out).mono ?_
       (case side1 => exact z_62 HR0.out HB.out)
       (case side2 => exact HC0.out)
       (case side3 => exact z_62 HR331_1.out HB.out)
       (case side4 => exact HC331_1.out)
       (case side5 => exact z_62 HR331_2.out HB.out)
       (case side6 => exact HC331_2.out)
       rintro e w16 ⟨rfl, hb⟩
       refine ⟨_, rfl, ?_⟩
       have n0_ := Aside0.mk (blk_below (g := gb330) (o := .cells #[.string a1_0, .slice A1_1 l1_1.length c1_1, .slice (some ad331) l1_2.length c1_2] 27 (0, 0)) (z_7 BK330.out) hb)
       have n1_ := Aside0.mk (below_step (z_8 HB.out GE330.out) hb)
       clear BK330
       clear HB
       have BK330 := n0_
       have HB := n1_
       clear n0_ n1_
       (try clear hb)
       (try clear hb2)
       (try clear hk)
       (try clear hi)
       refine hK.out _ _ ⟨(blk_cell BK330.out 0).trans rfl, (blk_cell BK330.out 1).trans rfl, (blk_cell BK330.out 2).trans rfl, ((HB.out.cell (World.block_lt_of_cell? w _ hw331_0)).trans hw331_0), ((HB.out.cell (World.block_lt_of_cell? w _ hw331_1)).trans hw331_1), ((HB.out.cell (World.block_lt_of_cell? w _ hw331_2)).trans hw331_2)⟩ (fun hHeld => ?_)
       clear hK K
       refine nm_ ?_
       refine go_ ?_ [23, 24] ?_
       refine done_ (done_of HT_.out (by kernel_rfl)) ?_
       try go_wp2
       go_roundg k1
       case measure => have := HK1.out; omega
       case rel => exact ⟨(wrap64 (x5_1 + 1)), z_3, H', ⟨by have := HK1.out; omega⟩, ⟨z_7 BK330.out⟩, ⟨z_8 HB.out GE330.out⟩⟩
      ·replace c11 := Bool.eq_false_iff.mpr c11
       subst c11
       have H1 : (some false) = some r := by rw [if_neg (show ¬ (false = true) by decide)] at H; exact H
       clear H
       have H := H1
       clear H1
       obtain rfl := Option.some.inj H
       have hcz17_0 : wr.cell? ⟨gb330, 0, none⟩ = some (.string a1_0) := (blk_cell BK330.out 0).trans rfl
       have hcz17_1 : wr.cell? ⟨gb330, 1, none⟩ = some (.slice A1_1 l1_1.length c1_1) := (blk_cell BK330.out 1).trans rfl
       have hcz17_2 : wr.cell? ⟨gb330, 2, none⟩ = some (.slice A1_2 l1_2.length c1_2) := (blk_cell BK330.out 2).trans rfl
       have hfz17_0 := blk_frozen BK330.out 0
       have hfz17_1 := blk_frozen BK330.out 1
       have hfz17_2 := blk_frozen BK330.out 2
       try go_wp2
       have n0_ := Aside0.mk (blk_drew BK330.out)
       have n1_ := Aside0.mk (below_drew1 HB.out)
       clear BK330
       clear HB
       have BK330 := n0_
       have HB := n1_
       clear n0_ n1_
       have p331 : 0 ≤ (x5_1 : Int) := of_decide_eq_true z_5
       have q331 : x5_1 < (l1_2.length : Int) := of_decide_eq_true z_5
       obtain ⟨ad331, A331_1, c331_1, A331_2, c331_2, e331, hx331_0, hx331_1, hx331_2, hl331_1, hi331_1, hl331_2, hi331_2⟩ := at_T27 HR1_2.out x5_1 p331 q331
       have hw331_2 := hx331_2
       have hw331_1 := hx331_1
       have hw331_0 := hx331_0
       cases e331
       replace hx331_0 := (HB.out.cell (World.block_lt_of_cell? w _ hx331_0)).trans hx331_0
       replace hx331_1 := (HB.out.cell (World.block_lt_of_cell? w _ hx331_1)).trans hx331_1
       replace hx331_2 := (HB.out.cell (World.block_lt_of_cell? w _ hx331_2)).trans hx331_2
       have HR331_1 := Aside0.mk hi331_1
       have HC331_1 := Aside0.mk hl331_1
       clear hi331_1 hl331_1
       have HR331_2 := Aside0.mk hi331_2
       have HC331_2 := Aside0.mk hl331_2
       clear hi331_2 hl331_2
       replace p331 := eq_true p331
       replace q331 := eq_true q331
       refine st_ 25 (fun w' => w'.cell? ⟨gb330, 0, none⟩ = some (.string a1_0) ∧ w'.cell? ⟨gb330, 1, none⟩ = some (.slice A1_1 l1_1.length c1_1) ∧ w'.cell? ⟨gb330, 2, none⟩ = some (.slice (some ad331) l1_2.length c1_2) ∧ w'.cell? (ad331.add ((x5_1).toNat * 3)) = some (.string ((rd_T27 l1_2 x5_1).f0)) ∧ w'.cell? ⟨(ad331.add ((x5_1).toNat * 3)).block, (ad331.add ((x5_1).toNat * 3)).off + 1, none⟩ = some (.slice A331_1 ((rd_T27 l1_2 x5_1).f1).length c331_1) ∧ w'.cell? ⟨(ad331.add ((x5_1).toNat * 3)).block, (ad331.add ((x5_1).toNat * 3)).off + 2, none⟩ = some (.slice A331_2 ((rd_T27 l1_2 x5_1).f2).length c331_2)) [] ⟨(blk_cell BK330.out 0).trans rfl, (blk_cell BK330.out 1).trans rfl, (blk_cell BK330.out 2).trans rfl, ((HB.out.cell (World.block_lt_of_cell? w _ hw331_0)).trans hw331_0), ((HB.out.cell (World.block_lt_of_cell? w _ hw331_1)).trans hw331_1), ((HB.out.cell (World.block_lt_of_cell? w _ hw331_2)).trans hw331_2)⟩ (fun hHeld => ?_); refine with_tabW laws_together.tab4 laws_together.bits4 (fun HT_ HW_ => ?_)
       generalize wr.drew = w18 at BK330 HB HR331_1 HR331_2 hx331_0 hx331_1 hx331_2 hHeld ⊢
       refine go_ ?_ [0, 1, 3, 9, 10, 1002, 4, 5, 1006, 1011] ?_
       refine on_ 7 20 (fun K hK => ?_)
       refine gs_ Try.func34 #[.slice A0 l0.length c0, .string ((rd_T27 l1_2 x5_1).f0)] ?_
       with_reducible refine (laws_spanOf.calls k1 _ _ l0 ((rd_T27 l1_2 x5_1).f0) t332 t333 t334 _ ?side1 ?side2 A6.out).mono ?_
       (case side1 => exact z_62 HR0.out HB.out)
       (case side2 => exact HC0.out)
       rintro e w19 ⟨rfl, hb⟩
       refine ⟨_, rfl, ?_⟩
       have n0_ := Aside0.mk (blk_below (g := gb330) (o := .cells #[.string a1_0, .slice A1_1 l1_1.length c1_1, .slice (some ad331) l1_2.length c1_2] 27 (0, 0)) (z_7 BK330.out) hb)
       have n1_ := Aside0.mk (below_step (z_8 HB.out GE330.out) hb)
       clear BK330
       clear HB
       have BK330 := n0_
       have HB := n1_
       clear n0_ n1_
       (try clear hb)
       (try clear hb2)
       (try clear hk)
       (try clear hi)
       refine hK.out _ _ ⟨(blk_cell BK330.out 0).trans rfl, (blk_cell BK330.out 1).trans rfl, (blk_cell BK330.out 2).trans rfl, ((HB.out.cell (World.block_lt_of_cell? w _ hw331_0)).trans hw331_0), ((HB.out.cell (World.block_lt_of_cell? w _ hw331_1)).trans hw331_1), ((HB.out.cell (World.block_lt_of_cell? w _ hw331_2)).trans hw331_2)⟩ (fun hHeld => ?_)
       clear hK K
       refine nm_ ?_
       refine go_ ?_ [8] ?_
       refine on_ 12 25 (fun K hK => ?_)
       refine gs_ Try.func34 #[.slice A0 l0.length c0, .string a1_0] ?_
       with_reducible refine (laws_spanOf.calls k1 _ _ l0 a1_0 t335 t336 t337 _ ?side1 ?side2 A7.out).mono ?_
       (case side1 => exact z_62 HR0.out HB.out)
       (case side2 => exact HC0.out)
       rintro e w20 ⟨rfl, hb⟩
       refine ⟨_, rfl, ?_⟩
       have n0_ := Aside0.mk (blk_below (g := gb330) (o := .cells #[.string a1_0, .slice A1_1 l1_1.length c1_1, .slice (some ad331) l1_2.length c1_2] 27 (0, 0)) (z_7 BK330.out) hb)
       have n1_ := Aside0.mk (below_step (z_8 HB.out GE330.out) hb)
       clear BK330
       clear HB
       have BK330 := n0_
       have HB := n1_
       clear n0_ n1_
       (try clear hb)
       (try clear hb2)
       (try clear hk)
       (try clear hi)
       have p9 : 0 ≤ (x5_1 : Int) := of_decide_eq_true z_5
       have q9 : (x5_1 : Int) < ((l1_2.length : Int) : Int) := of_decide_eq_true z_5
       replace p9 := eq_true p9
       replace q9 := eq_true q9
       refine hK.out _ _ ⟨(blk_cell BK330.out 0).trans rfl, (blk_cell BK330.out 1).trans rfl, (blk_cell BK330.out 2).trans rfl, ((HB.out.cell (World.block_lt_of_cell? w _ hw331_0)).trans hw331_0), ((HB.out.cell (World.block_lt_of_cell? w _ hw331_1)).trans hw331_1), ((HB.out.cell (World.block_lt_of_cell? w _ hw331_2)).trans hw331_2)⟩ (fun hHeld => ?_)
       clear hK K
       refine nm_ ?_
       refine go_ ?_ [13, 14, 15, 16, 17, 19, 1018, 20, 1021] ?_
       refine on_ 22 35 (fun K hK => ?_)
       refine gs_ Try.func14 #[.slice A0 l0.length c0, .agg #[.string ((rd_T27 l1_2 x5_1).f0), .slice A331_1 ((rd_T27 l1_2 x5_1).f1).length c331_1, .slice A331_2 ((rd_T27 l1_2 x5_1).f2).length c331_2]] ?_
       with_reducible refine (ih k1 (by have := HK1.out; omega) _ _ l0 ((rd_T27 l1_2 x5_1).f0) _ _ ((rd_T27 l1_2 x5_1).f1) _ _ ((rd_T27 l1_2 x5_1).f2) false _ ?side1 ?side2 ?side3 ?side4 ?side5 ?side6 A10.out).mono ?_
       (case side1 => exact z_62 HR0.out HB.out)
       (case side2 => exact HC0.out)
       (case side3 => exact z_62 HR331_1.out HB.out)
       (case side4 => exact HC331_1.out)
       (case side5 => exact z_62 HR331_2.out HB.out)
       (case side6 => exact HC331_2.out)
       rintro e w21 ⟨rfl, hb⟩
       refine ⟨_, rfl, ?_⟩
       have n0_ := Aside0.mk (blk_below (g := gb330) (o := .cells #[.string a1_0, .slice A1_1 l1_1.length c1_1, .slice (some ad331) l1_2.length c1_2] 27 (0, 0)) (z_7 BK330.out) hb)
       have n1_ := Aside0.mk (below_step (z_8 HB.out GE330.out) hb)
       clear BK330
       clear HB
       have BK330 := n0_
       have HB := n1_
       clear n0_ n1_
       (try clear hb)
       (try clear hb2)
       (try clear hk)
       (try clear hi)
       refine hK.out _ _ ⟨(blk_cell BK330.out 0).trans rfl, (blk_cell BK330.out 1).trans rfl, (blk_cell BK330.out 2).trans rfl, ((HB.out.cell (World.block_lt_of_cell? w _ hw331_0)).trans hw331_0), ((HB.out.cell (World.block_lt_of_cell? w _ hw331_1)).trans hw331_1), ((HB.out.cell (World.block_lt_of_cell? w _ hw331_2)).trans hw331_2)⟩ (fun hHeld => ?_)
       clear hK K
       refine nm_ ?_
       refine go_ ?_ [23, 24] ?_
       refine done_ (done_of HT_.out (by kernel_rfl)) ?_
       try go_wp2
       go_ret
       exact ⟨z_9, z_8 HB.out GE330.out⟩
     ·rw [if_neg c8] at H
      have c8b0 : (t333 == t337) = false := beq_eq_false_iff_ne.mpr c8
      have c8b1 : (t333 != t337) = true := bne_iff_ne.mpr c8
      obtain rfl := Option.some.inj H
      have hcz22_0 : wr.cell? ⟨gb330, 0, none⟩ = some (.string a1_0) := (blk_cell BK330.out 0).trans rfl
      have hcz22_1 : wr.cell? ⟨gb330, 1, none⟩ = some (.slice A1_1 l1_1.length c1_1) := (blk_cell BK330.out 1).trans rfl
      have hcz22_2 : wr.cell? ⟨gb330, 2, none⟩ = some (.slice A1_2 l1_2.length c1_2) := (blk_cell BK330.out 2).trans rfl
      have hfz22_0 := blk_frozen BK330.out 0
      have hfz22_1 := blk_frozen BK330.out 1
      have hfz22_2 := blk_frozen BK330.out 2
      try go_wp2
      have n0_ := Aside0.mk (blk_drew BK330.out)
      have n1_ := Aside0.mk (below_drew1 HB.out)
      clear BK330
      clear HB
      have BK330 := n0_
      have HB := n1_
      clear n0_ n1_
      have p331 : 0 ≤ (x5_1 : Int) := of_decide_eq_true z_5
      have q331 : x5_1 < (l1_2.length : Int) := of_decide_eq_true z_5
      obtain ⟨ad331, A331_1, c331_1, A331_2, c331_2, e331, hx331_0, hx331_1, hx331_2, hl331_1, hi331_1, hl331_2, hi331_2⟩ := at_T27 HR1_2.out x5_1 p331 q331
      have hw331_2 := hx331_2
      have hw331_1 := hx331_1
      have hw331_0 := hx331_0
      cases e331
      replace hx331_0 := (HB.out.cell (World.block_lt_of_cell? w _ hx331_0)).trans hx331_0
      replace hx331_1 := (HB.out.cell (World.block_lt_of_cell? w _ hx331_1)).trans hx331_1
      replace hx331_2 := (HB.out.cell (World.block_lt_of_cell? w _ hx331_2)).trans hx331_2
      have HR331_1 := Aside0.mk hi331_1
      have HC331_1 := Aside0.mk hl331_1
      clear hi331_1 hl331_1
      have HR331_2 := Aside0.mk hi331_2
      have HC331_2 := Aside0.mk hl331_2
      clear hi331_2 hl331_2
      replace p331 := eq_true p331
      replace q331 := eq_true q331
      refine st_ 25 (fun w' => w'.cell? ⟨gb330, 0, none⟩ = some (.string a1_0) ∧ w'.cell? ⟨gb330, 1, none⟩ = some (.slice A1_1 l1_1.length c1_1) ∧ w'.cell? ⟨gb330, 2, none⟩ = some (.slice (some ad331) l1_2.length c1_2) ∧ w'.cell? (ad331.add ((x5_1).toNat * 3)) = some (.string ((rd_T27 l1_2 x5_1).f0)) ∧ w'.cell? ⟨(ad331.add ((x5_1).toNat * 3)).block, (ad331.add ((x5_1).toNat * 3)).off + 1, none⟩ = some (.slice A331_1 ((rd_T27 l1_2 x5_1).f1).length c331_1) ∧ w'.cell? ⟨(ad331.add ((x5_1).toNat * 3)).block, (ad331.add ((x5_1).toNat * 3)).off + 2, none⟩ = some (.slice A331_2 ((rd_T27 l1_2 x5_1).f2).length c331_2)) [] ⟨(blk_cell BK330.out 0).trans rfl, (blk_cell BK330.out 1).trans rfl, (blk_cell BK330.out 2).trans rfl, ((HB.out.cell (World.block_lt_of_cell? w _ hw331_0)).trans hw331_0), ((HB.out.cell (World.block_lt_of_cell? w _ hw331_1)).trans hw331_1), ((HB.out.cell (World.block_lt_of_cell? w _ hw331_2)).trans hw331_2)⟩ (fun hHeld => ?_); refine with_tabW laws_together.tab4 laws_together.bits4 (fun HT_ HW_ => ?_)
      generalize wr.drew = w23 at BK330 HB HR331_1 HR331_2 hx331_0 hx331_1 hx331_2 hHeld ⊢
      refine go_ ?_ [0, 1, 3, 9, 10, 1002, 4, 5, 1006, 1011] ?_
      refine on_ 7 20 (fun K hK => ?_)
      refine gs_ Try.func34 #[.slice A0 l0.length c0, .string ((rd_T27 l1_2 x5_1).f0)] ?_
      with_reducible refine (laws_spanOf.calls k1 _ _ l0 ((rd_T27 l1_2 x5_1).f0) t332 t333 t334 _ ?side1 ?side2 A6.out).mono ?_
      (case side1 => exact z_62 HR0.out HB.out)
      (case side2 => exact HC0.out)
      rintro e w24 ⟨rfl, hb⟩
      refine ⟨_, rfl, ?_⟩
      have n0_ := Aside0.mk (blk_below (g := gb330) (o := .cells #[.string a1_0, .slice A1_1 l1_1.length c1_1, .slice (some ad331) l1_2.length c1_2] 27 (0, 0)) (z_7 BK330.out) hb)
      have n1_ := Aside0.mk (below_step (z_8 HB.out GE330.out) hb)
      clear BK330
      clear HB
      have BK330 := n0_
      have HB := n1_
      clear n0_ n1_
      (try clear hb)
      (try clear hb2)
      (try clear hk)
      (try clear hi)
      refine hK.out _ _ ⟨(blk_cell BK330.out 0).trans rfl, (blk_cell BK330.out 1).trans rfl, (blk_cell BK330.out 2).trans rfl, ((HB.out.cell (World.block_lt_of_cell? w _ hw331_0)).trans hw331_0), ((HB.out.cell (World.block_lt_of_cell? w _ hw331_1)).trans hw331_1), ((HB.out.cell (World.block_lt_of_cell? w _ hw331_2)).trans hw331_2)⟩ (fun hHeld => ?_)
      clear hK K
      refine nm_ ?_
      refine go_ ?_ [8] ?_
      refine on_ 12 25 (fun K hK => ?_)
      refine gs_ Try.func34 #[.slice A0 l0.length c0, .string a1_0] ?_
      with_reducible refine (laws_spanOf.calls k1 _ _ l0 a1_0 t335 t336 t337 _ ?side1 ?side2 A7.out).mono ?_
      (case side1 => exact z_62 HR0.out HB.out)
      (case side2 => exact HC0.out)
      rintro e w25 ⟨rfl, hb⟩
      refine ⟨_, rfl, ?_⟩
      have n0_ := Aside0.mk (blk_below (g := gb330) (o := .cells #[.string a1_0, .slice A1_1 l1_1.length c1_1, .slice (some ad331) l1_2.length c1_2] 27 (0, 0)) (z_7 BK330.out) hb)
      have n1_ := Aside0.mk (below_step (z_8 HB.out GE330.out) hb)
      clear BK330
      clear HB
      have BK330 := n0_
      have HB := n1_
      clear n0_ n1_
      (try clear hb)
      (try clear hb2)
      (try clear hk)
      (try clear hi)
      refine hK.out _ _ ⟨(blk_cell BK330.out 0).trans rfl, (blk_cell BK330.out 1).trans rfl, (blk_cell BK330.out 2).trans rfl, ((HB.out.cell (World.block_lt_of_cell? w _ hw331_0)).trans hw331_0), ((HB.out.cell (World.block_lt_of_cell? w _ hw331_1)).trans hw331_1), ((HB.out.cell (World.block_lt_of_cell? w _ hw331_2)).trans hw331_2)⟩ (fun hHeld => ?_)
      clear hK K
      refine nm_ ?_
      refine go_ ?_ [13, 14, 15, 2016, 2017, 2018, 2019, 2020, 2021, 2022, 2023, 24] ?_
      refine done_ (done_of HT_.out (by kernel_rfl)) ?_
      try go_wp2
      go_ret
      exact ⟨z_9, z_8 HB.out GE330.out⟩
    ·rw [if_neg c5] at H
     exact absurd H (by simp)
   ·rw [if_neg c4] at H
    have c4b0 : decide (x5_1 < (l1_2.length : Int)) = false := decide_eq_false c4
    clear c4
    obtain rfl := Option.some.inj H
    have hcz26_0 : wr.cell? ⟨gb330, 0, none⟩ = some (.string a1_0) := (blk_cell BK330.out 0).trans rfl
    have hcz26_1 : wr.cell? ⟨gb330, 1, none⟩ = some (.slice A1_1 l1_1.length c1_1) := (blk_cell BK330.out 1).trans rfl
    have hcz26_2 : wr.cell? ⟨gb330, 2, none⟩ = some (.slice A1_2 l1_2.length c1_2) := (blk_cell BK330.out 2).trans rfl
    have hfz26_0 := blk_frozen BK330.out 0
    have hfz26_1 := blk_frozen BK330.out 1
    have hfz26_2 := blk_frozen BK330.out 2
    go_wp2
    go_ret
    exact ⟨z_9, z_8 HB.out GE330.out⟩
end Go.Proofs.Ytdphpmejjlgpnaa.PFnLaidOver
