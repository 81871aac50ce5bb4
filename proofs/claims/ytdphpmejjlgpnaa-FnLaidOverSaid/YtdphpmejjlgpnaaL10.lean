import Derived.Test.YtdphpmejjlgpnaaL0
import Derived.Test.YtdphpmejjlgpnaaL1
import Derived.Test.YtdphpmejjlgpnaaL3
import Derived.Test.YtdphpmejjlgpnaaL6
import Derived.Test.YtdphpmejjlgpnaaL7
import Derived.Test.YtdphpmejjlgpnaaL9
import Derived.Test.YtdphpmejjlgpnaaLZ
namespace Go.Proofs.Ytdphpmejjlgpnaa.PFnLaidOver
open Go.RowKit Go.Proofs.YtdphpmejjlgpnaaW.PrintWords Go.Proofs.YtdphpmejjlgpnaaW.PrintLast Go.Proofs.YtdphpmejjlgpnaaW.PrintMore
attribute [local go_sem] max2_int min2_int max_two min_two max_three min_three max_four min_four
mutual
def laws_FnLaidOver.j0 : Nat → List ByteArray → List Int → List (S38) → Bool → ByteArray → List ByteArray → List (S27) → Option (Bool)
 | 0, _, _, _, _, _, _, _ => none
 | k + 1, x4, x5, x6, x42, x354000, x354001, x354002 => if x42 = true then (some false) else (laws_FnLaidOver.l0 k x4 x5 x6 0 0 x354000 x354001 x354002)
def laws_FnLaidOver.l0 : Nat → List ByteArray → List Int → List (S38) → Int → Int → ByteArray → List ByteArray → List (S27) → Option (Bool)
 | 0, _, _, _, _, _, _, _, _ => none
 | k + 1, x4, x5, x6, x8, x9, x354000, x354001, x354002 => if x9 < (x6.length : Int) then (if 0 ≤ x9 then (if ((rd_T38 x6 x9).f2) > x8 then (laws_FnLaidOver.j2 k x4 x5 x6 ((rd_T38 x6 x9).f2) x9 x354000 x354001 x354002) else (laws_FnLaidOver.j2 k x4 x5 x6 x8 x9 x354000 x354001 x354002)) else (none)) else ((impl_Peak.f k x354000 x354001 x354002 x4 x5).bind fun t378 => (if x8 = (wrap64 (64 + (wrap64 (2 * t378)))) then ((impl_Peak.f k x354000 x354001 x354002 x4 x5).bind fun t379 => ((impl_Flat.f k x354000 x354001 x354002 x4 x5).bind fun t380 => (if t379 ≤ t380 then ((laws_together.f k x6 x354000 x354001 x354002).bind fun t381 => (some t381)) else (some false)))) else (some false)))
def laws_FnLaidOver.j2 : Nat → List ByteArray → List Int → List (S38) → Int → Int → ByteArray → List ByteArray → List (S27) → Option (Bool)
 | 0, _, _, _, _, _, _, _, _ => none
 | k + 1, x4, x5, x6, x8, x9, x354000, x354001, x354002 => if 0 ≤ x9 then (if x9 < (x6.length : Int) then (if (Int.tmod ((rd_T38 x6 x9).f1) 2) = 0 then (laws_FnLaidOver.j3 k x4 x5 x6 x8 x9 (decide (((rd_T38 x6 x9).f1) > ((rd_T38 x6 x9).f2))) x354000 x354001 x354002) else (laws_FnLaidOver.j3 k x4 x5 x6 x8 x9 true x354000 x354001 x354002)) else (none)) else (none)
def laws_FnLaidOver.j3 : Nat → List ByteArray → List Int → List (S38) → Int → Int → Bool → ByteArray → List ByteArray → List (S27) → Option (Bool)
 | 0, _, _, _, _, _, _, _, _, _ => none
 | k + 1, x4, x5, x6, x8, x9, x80, x354000, x354001, x354002 => if x80 = true then (some false) else (laws_FnLaidOver.l1 k x4 x5 x6 x8 x9 0 x354000 x354001 x354002)
def laws_FnLaidOver.l1 : Nat → List ByteArray → List Int → List (S38) → Int → Int → Int → ByteArray → List ByteArray → List (S27) → Option (Bool)
 | 0, _, _, _, _, _, _, _, _, _ => none
 | k + 1, x4, x5, x6, x8, x9, x10, x354000, x354001, x354002 => if x10 < x9 then (if 0 ≤ x9 then (if x9 < (x6.length : Int) then (if 0 ≤ x10 then (if x10 < (x6.length : Int) then ((impl_Above.f k x354000 x354001 x354002 ((rd_T38 x6 x9).f0) ((rd_T38 x6 x10).f0)).bind fun t373 => (if t373 = true then (if ((rd_T38 x6 x9).f1) < ((rd_T38 x6 x10).f2) then (if ((rd_T38 x6 x10).f1) < ((rd_T38 x6 x9).f2) then (some false) else (laws_FnLaidOver.l1 k x4 x5 x6 x8 x9 (wrap64 (x10 + 1)) x354000 x354001 x354002)) else (laws_FnLaidOver.l1 k x4 x5 x6 x8 x9 (wrap64 (x10 + 1)) x354000 x354001 x354002)) else (laws_FnLaidOver.l1 k x4 x5 x6 x8 x9 (wrap64 (x10 + 1)) x354000 x354001 x354002))) else (none)) else (none)) else (none)) else (none)) else (laws_FnLaidOver.l0 k x4 x5 x6 x8 (wrap64 (x9 + 1)) x354000 x354001 x354002)
end
def laws_FnLaidOver.f (k : Nat) (l0 : List Int) : Option (Bool) := (laws_big.f l0).bind fun t339 => (if t339 = true then (some true) else ((spec_DrawTree.f k l0).bind fun bt340 => ((impl_Layout.f k bt340.1 bt340.2.1 bt340.2.2.1 bt340.2.2.2.1 bt340.2.2.2.2 64).bind fun bt354 => (if bt354.2 = true then ((laws_spans.f k bt354.1).bind fun t358 => ((impl_Segs.f k bt340.1 bt340.2.1 bt340.2.2.1).bind fun t361 => ((laws_sameTexts.f k t358 t361).bind fun t364 => (if t364 = true then (if 0 < (bt354.1.length : Int) then (laws_FnLaidOver.j0 k bt340.2.2.2.1 bt340.2.2.2.2 bt354.1 (((rd_T38 bt354.1 0).f1) != 64) bt340.1 bt340.2.1 bt340.2.2.1) else (none)) else (laws_FnLaidOver.j0 k bt340.2.2.2.1 bt340.2.2.2.2 bt354.1 true bt340.1 bt340.2.1 bt340.2.2.1))))) else (laws_FnLaidOver.j0 k bt340.2.2.2.1 bt340.2.2.2.2 bt354.1 true bt340.1 bt340.2.1 bt340.2.2.1)))))
theorem laws_FnLaidOver.mono_l : ∀ k, (∀ y0 y1 y2 y3 y4 y5 y6, LeO (laws_FnLaidOver.j0 k y0 y1 y2 y3 y4 y5 y6) (laws_FnLaidOver.j0 (k + 1) y0 y1 y2 y3 y4 y5 y6)) ∧ (∀ y0 y1 y2 y3 y4 y5 y6 y7, LeO (laws_FnLaidOver.l0 k y0 y1 y2 y3 y4 y5 y6 y7) (laws_FnLaidOver.l0 (k + 1) y0 y1 y2 y3 y4 y5 y6 y7)) ∧ (∀ y0 y1 y2 y3 y4 y5 y6 y7, LeO (laws_FnLaidOver.j2 k y0 y1 y2 y3 y4 y5 y6 y7) (laws_FnLaidOver.j2 (k + 1) y0 y1 y2 y3 y4 y5 y6 y7)) ∧ (∀ y0 y1 y2 y3 y4 y5 y6 y7 y8, LeO (laws_FnLaidOver.j3 k y0 y1 y2 y3 y4 y5 y6 y7 y8) (laws_FnLaidOver.j3 (k + 1) y0 y1 y2 y3 y4 y5 y6 y7 y8)) ∧ (∀ y0 y1 y2 y3 y4 y5 y6 y7 y8, LeO (laws_FnLaidOver.l1 k y0 y1 y2 y3 y4 y5 y6 y7 y8) (laws_FnLaidOver.l1 (k + 1) y0 y1 y2 y3 y4 y5 y6 y7 y8))
 | 0 => ⟨fun _ _ _ _ _ _ _ r h => by simp [laws_FnLaidOver.j0] at h, fun _ _ _ _ _ _ _ _ r h => by simp [laws_FnLaidOver.l0] at h, fun _ _ _ _ _ _ _ _ r h => by simp [laws_FnLaidOver.j2] at h, fun _ _ _ _ _ _ _ _ _ r h => by simp [laws_FnLaidOver.j3] at h, fun _ _ _ _ _ _ _ _ _ r h => by simp [laws_FnLaidOver.l1] at h⟩
 | k + 1 => by
  obtain ⟨ih0, ih1, ih2, ih3, ih4⟩ := laws_FnLaidOver.mono_l k
  refine ⟨?_, ?_, ?_, ?_, ?_⟩
  ·intro y0 y1 y2 y3 y4 y5 y6
   unfold laws_FnLaidOver.j0
   repeat' first
   | (with_reducible exact ih0 _ _ _ _ _ _ _)
   | (with_reducible exact ih1 _ _ _ _ _ _ _ _)
   | (with_reducible exact ih2 _ _ _ _ _ _ _ _)
   | (with_reducible exact ih3 _ _ _ _ _ _ _ _ _)
   | (with_reducible exact ih4 _ _ _ _ _ _ _ _ _)
   | (with_reducible exact impl_Above.mono _ _ _ _ _ _)
   | (with_reducible exact impl_Flat.mono _ _ _ _ _ _)
   | (with_reducible exact impl_Layout.mono _ _ _ _ _ _ _)
   | (with_reducible exact impl_Peak.mono _ _ _ _ _ _)
   | (with_reducible exact impl_Segs.mono _ _ _ _)
   | (with_reducible exact laws_sameTexts.mono _ _ _)
   | (with_reducible exact laws_spans.mono _ _)
   | (with_reducible exact laws_together.mono _ _ _ _ _)
   | (with_reducible exact spec_DrawTree.mono _ _)
   | (with_reducible exact LeO.refl _)
   | (with_reducible exact LeO.none _)
   | (with_reducible refine LeO.ite ?_ ?_)
   | (with_reducible refine LeO.bind ?_ (fun _ => ?_))
   | exact ih0 _ _ _ _ _ _ _
   | exact ih1 _ _ _ _ _ _ _ _
   | exact ih2 _ _ _ _ _ _ _ _
   | exact ih3 _ _ _ _ _ _ _ _ _
   | exact ih4 _ _ _ _ _ _ _ _ _
   | exact impl_Above.mono _ _ _ _ _ _
   | exact impl_Flat.mono _ _ _ _ _ _
   | exact impl_Layout.mono _ _ _ _ _ _ _
   | exact impl_Peak.mono _ _ _ _ _ _
   | exact impl_Segs.mono _ _ _ _
   | exact laws_sameTexts.mono _ _ _
   | exact laws_spans.mono _ _
   | exact laws_together.mono _ _ _ _ _
   | exact spec_DrawTree.mono _ _
   | exact LeO.none _
   | refine LeO.ite ?_ ?_
   | refine LeO.bind ?_ (fun _ => ?_)
  ·intro y0 y1 y2 y3 y4 y5 y6 y7
   unfold laws_FnLaidOver.l0
   repeat' first
   | (with_reducible exact ih0 _ _ _ _ _ _ _)
   | (with_reducible exact ih1 _ _ _ _ _ _ _ _)
   | (with_reducible exact ih2 _ _ _ _ _ _ _ _)
   | (with_reducible exact ih3 _ _ _ _ _ _ _ _ _)
   | (with_reducible exact ih4 _ _ _ _ _ _ _ _ _)
   | (with_reducible exact impl_Above.mono _ _ _ _ _ _)
   | (with_reducible exact impl_Flat.mono _ _ _ _ _ _)
   | (with_reducible exact impl_Layout.mono _ _ _ _ _ _ _)
   | (with_reducible exact impl_Peak.mono _ _ _ _ _ _)
   | (with_reducible exact impl_Segs.mono _ _ _ _)
   | (with_reducible exact laws_sameTexts.mono _ _ _)
   | (with_reducible exact laws_spans.mono _ _)
   | (with_reducible exact laws_together.mono _ _ _ _ _)
   | (with_reducible exact spec_DrawTree.mono _ _)
   | (with_reducible exact LeO.refl _)
   | (with_reducible exact LeO.none _)
   | (with_reducible refine LeO.ite ?_ ?_)
   | (with_reducible refine LeO.bind ?_ (fun _ => ?_))
   | exact ih0 _ _ _ _ _ _ _
   | exact ih1 _ _ _ _ _ _ _ _
   | exact ih2 _ _ _ _ _ _ _ _
   | exact ih3 _ _ _ _ _ _ _ _ _
   | exact ih4 _ _ _ _ _ _ _ _ _
   | exact impl_Above.mono _ _ _ _ _ _
   | exact impl_Flat.mono _ _ _ _ _ _
   | exact impl_Layout.mono _ _ _ _ _ _ _
   | exact impl_Peak.mono _ _ _ _ _ _
   | exact impl_Segs.mono _ _ _ _
   | exact laws_sameTexts.mono _ _ _
   | exact laws_spans.mono _ _
   | exact laws_together.mono _ _ _ _ _
   | exact spec_DrawTree.mono _ _
   | exact LeO.none _
   | refine LeO.ite ?_ ?_
   | refine LeO.bind ?_ (fun _ => ?_)
  ·intro y0 y1 y2 y3 y4 y5 y6 y7
   unfold laws_FnLaidOver.j2
   repeat' first
   | (with_reducible exact ih0 _ _ _ _ _ _ _)
   | (with_reducible exact ih1 _ _ _ _ _ _ _ _)
   | (with_reducible exact ih2 _ _ _ _ _ _ _ _)
   | (with_reducible exact ih3 _ _ _ _ _ _ _ _ _)
   | (with_reducible exact ih4 _ _ _ _ _ _ _ _ _)
   | (with_reducible exact impl_Above.mono _ _ _ _ _ _)
   | (with_reducible exact impl_Flat.mono _ _ _ _ _ _)
   | (with_reducible exact impl_Layout.mono _ _ _ _ _ _ _)
   | (with_reducible exact impl_Peak.mono _ _ _ _ _ _)
   | (with_reducible exact impl_Segs.mono _ _ _ _)
   | (with_reducible exact laws_sameTexts.mono _ _ _)
   | (with_reducible exact laws_spans.mono _ _)
   | (with_reducible exact laws_together.mono _ _ _ _ _)
   | (with_reducible exact spec_DrawTree.mono _ _)
   | (with_reducible exact LeO.refl _)
   | (with_reducible exact LeO.none _)
   | (with_reducible refine LeO.ite ?_ ?_)
   | (with_reducible refine LeO.bind ?_ (fun _ => ?_))
   | exact ih0 _ _ _ _ _ _ _
   | exact ih1 _ _ _ _ _ _ _ _
   | exact ih2 _ _ _ _ _ _ _ _
   | exact ih3 _ _ _ _ _ _ _ _ _
   | exact ih4 _ _ _ _ _ _ _ _ _
   | exact impl_Above.mono _ _ _ _ _ _
   | exact impl_Flat.mono _ _ _ _ _ _
   | exact impl_Layout.mono _ _ _ _ _ _ _
   | exact impl_Peak.mono _ _ _ _ _ _
   | exact impl_Segs.mono _ _ _ _
   | exact laws_sameTexts.mono _ _ _
   | exact laws_spans.mono _ _
   | exact laws_together.mono _ _ _ _ _
   | exact spec_DrawTree.mono _ _
   | exact LeO.none _
   | refine LeO.ite ?_ ?_
   | refine LeO.bind ?_ (fun _ => ?_)
  ·intro y0 y1 y2 y3 y4 y5 y6 y7 y8
   unfold laws_FnLaidOver.j3
   repeat' first
   | (with_reducible exact ih0 _ _ _ _ _ _ _)
   | (with_reducible exact ih1 _ _ _ _ _ _ _ _)
   | (with_reducible exact ih2 _ _ _ _ _ _ _ _)
   | (with_reducible exact ih3 _ _ _ _ _ _ _ _ _)
   | (with_reducible exact ih4 _ _ _ _ _ _ _ _ _)
   | (with_reducible exact impl_Above.mono _ _ _ _ _ _)
   | (with_reducible exact impl_Flat.mono _ _ _ _ _ _)
   | (with_reducible exact impl_Layout.mono _ _ _ _ _ _ _)
   | (with_reducible exact impl_Peak.mono _ _ _ _ _ _)
   | (with_reducible exact impl_Segs.mono _ _ _ _)
   | (with_reducible exact laws_sameTexts.mono _ _ _)
   | (with_reducible exact laws_spans.mono _ _)
   | (with_reducible exact laws_together.mono _ _ _ _ _)
   | (with_reducible exact spec_DrawTree.mono _ _)
   | (with_reducible exact LeO.refl _)
   | (with_reducible exact LeO.none _)
   | (with_reducible refine LeO.ite ?_ ?_)
   | (with_reducible refine LeO.bind ?_ (fun _ => ?_))
   | exact ih0 _ _ _ _ _ _ _
   | exact ih1 _ _ _ _ _ _ _ _
   | exact ih2 _ _ _ _ _ _ _ _
   | exact ih3 _ _ _ _ _ _ _ _ _
   | exact ih4 _ _ _ _ _ _ _ _ _
   | exact impl_Above.mono _ _ _ _ _ _
   | exact impl_Flat.mono _ _ _ _ _ _
   | exact impl_Layout.mono _ _ _ _ _ _ _
   | exact impl_Peak.mono _ _ _ _ _ _
   | exact impl_Segs.mono _ _ _ _
   | exact laws_sameTexts.mono _ _ _
   | exact laws_spans.mono _ _
   | exact laws_together.mono _ _ _ _ _
   | exact spec_DrawTree.mono _ _
   | exact LeO.none _
   | refine LeO.ite ?_ ?_
   | refine LeO.bind ?_ (fun _ => ?_)
  ·intro y0 y1 y2 y3 y4 y5 y6 y7 y8
   unfold laws_FnLaidOver.l1
   repeat' first
   | (with_reducible exact ih0 _ _ _ _ _ _ _)
   | (with_reducible exact ih1 _ _ _ _ _ _ _ _)
   | (with_reducible exact ih2 _ _ _ _ _ _ _ _)
   | (with_reducible exact ih3 _ _ _ _ _ _ _ _ _)
   | (with_reducible exact ih4 _ _ _ _ _ _ _ _ _)
   | (with_reducible exact impl_Above.mono _ _ _ _ _ _)
   | (with_reducible exact impl_Flat.mono _ _ _ _ _ _)
   | (with_reducible exact impl_Layout.mono _ _ _ _ _ _ _)
   | (with_reducible exact impl_Peak.mono _ _ _ _ _ _)
   | (with_reducible exact impl_Segs.mono _ _ _ _)
   | (with_reducible exact laws_sameTexts.mono _ _ _)
   | (with_reducible exact laws_spans.mono _ _)
   | (with_reducible exact laws_together.mono _ _ _ _ _)
   | (with_reducible exact spec_DrawTree.mono _ _)
   | (with_reducible exact LeO.refl _)
   | (with_reducible exact LeO.none _)
   | (with_reducible refine LeO.ite ?_ ?_)
   | (with_reducible refine LeO.bind ?_ (fun _ => ?_))
   | exact ih0 _ _ _ _ _ _ _
   | exact ih1 _ _ _ _ _ _ _ _
   | exact ih2 _ _ _ _ _ _ _ _
   | exact ih3 _ _ _ _ _ _ _ _ _
   | exact ih4 _ _ _ _ _ _ _ _ _
   | exact impl_Above.mono _ _ _ _ _ _
   | exact impl_Flat.mono _ _ _ _ _ _
   | exact impl_Layout.mono _ _ _ _ _ _ _
   | exact impl_Peak.mono _ _ _ _ _ _
   | exact impl_Segs.mono _ _ _ _
   | exact laws_sameTexts.mono _ _ _
   | exact laws_spans.mono _ _
   | exact laws_together.mono _ _ _ _ _
   | exact spec_DrawTree.mono _ _
   | exact LeO.none _
   | refine LeO.ite ?_ ?_
   | refine LeO.bind ?_ (fun _ => ?_)
theorem laws_FnLaidOver.mono : ∀ a0 k, LeO (laws_FnLaidOver.f k a0) (laws_FnLaidOver.f (k + 1) a0) := by
 intro a0 k
 obtain ⟨ih0, ih1, ih2, ih3, ih4⟩ := laws_FnLaidOver.mono_l k
 unfold laws_FnLaidOver.f
 repeat' first
  | (with_reducible exact ih0 _ _ _ _ _ _ _)
  | (with_reducible exact ih1 _ _ _ _ _ _ _ _)
  | (with_reducible exact ih2 _ _ _ _ _ _ _ _)
  | (with_reducible exact ih3 _ _ _ _ _ _ _ _ _)
  | (with_reducible exact ih4 _ _ _ _ _ _ _ _ _)
  | (with_reducible exact impl_Above.mono _ _ _ _ _ _)
  | (with_reducible exact impl_Flat.mono _ _ _ _ _ _)
  | (with_reducible exact impl_Layout.mono _ _ _ _ _ _ _)
  | (with_reducible exact impl_Peak.mono _ _ _ _ _ _)
  | (with_reducible exact impl_Segs.mono _ _ _ _)
  | (with_reducible exact laws_sameTexts.mono _ _ _)
  | (with_reducible exact laws_spans.mono _ _)
  | (with_reducible exact laws_together.mono _ _ _ _ _)
  | (with_reducible exact spec_DrawTree.mono _ _)
  | (with_reducible exact LeO.refl _)
  | (with_reducible exact LeO.none _)
  | (with_reducible refine LeO.ite ?_ ?_)
  | (with_reducible refine LeO.bind ?_ (fun _ => ?_))
  | exact ih0 _ _ _ _ _ _ _
  | exact ih1 _ _ _ _ _ _ _ _
  | exact ih2 _ _ _ _ _ _ _ _
  | exact ih3 _ _ _ _ _ _ _ _ _
  | exact ih4 _ _ _ _ _ _ _ _ _
  | exact impl_Above.mono _ _ _ _ _ _
  | exact impl_Flat.mono _ _ _ _ _ _
  | exact impl_Layout.mono _ _ _ _ _ _ _
  | exact impl_Peak.mono _ _ _ _ _ _
  | exact impl_Segs.mono _ _ _ _
  | exact laws_sameTexts.mono _ _ _
  | exact laws_spans.mono _ _
  | exact laws_together.mono _ _ _ _ _
  | exact spec_DrawTree.mono _ _
  | exact LeO.none _
  | refine LeO.ite ?_ ?_
  | refine LeO.bind ?_ (fun _ => ?_)
def laws_FnLaidOver.T5 : Bool × List (List Nat × List Nat) := (true, [([], []), ([0], [0]), ([1], [1]), ([2], [2]), ([3, 2, 2], [2, 3]), ([2], [2]), ([5, 4, 2], [2, 5]), ([4, 6, 6, 2], [2, 4, 6]), ([7, 2], [2, 7]), ([2, 8], [2, 8]), ([9, 7], [9]), ([10], [10]), ([11, 10], [10, 11]), ([12, 10], [10, 12]), ([13, 10], [10, 13]), ([14, 10], [10, 14]), ([10, 15], [10, 15])])
def laws_FnLaidOver.B5 : List Nat := [0, 1, 3, 7, 15, 7, 63, 127, 255, 511, 1023, 2047, 4095, 8191, 16383, 32767, 65535]
theorem laws_FnLaidOver.tab5 : rtab .any (opsOf Try.f3 5) = laws_FnLaidOver.T5 := by kernel_rfl
theorem laws_FnLaidOver.bits5 : waitsOk laws_FnLaidOver.T5.2 laws_FnLaidOver.B5 = true := by kernel_rfl
def laws_FnLaidOver.T13 : Bool × List (List Nat × List Nat) := (true, [([], []), ([], []), ([0, 1], [0, 1]), ([2], [2]), ([3], [3]), ([4], [4]), ([5], [5]), ([6], [6]), ([7], [7]), ([7], [7]), ([8, 9, 7], [7, 8, 9]), ([10, 7], [7, 10]), ([11, 7], [7, 11]), ([7], [7]), ([7], [7]), ([13, 14, 7], [7, 13, 14]), ([15, 7], [7, 15]), ([16, 7], [7, 16]), ([12, 17, 7], [7, 12, 17]), ([7, 18], [7, 18])])
def laws_FnLaidOver.B13 : List Nat := [0, 0, 3, 7, 15, 31, 63, 127, 255, 255, 1023, 2047, 4095, 255, 255, 24831, 57599, 123135, 262143, 524287]
theorem laws_FnLaidOver.tab13 : rtab .any (opsOf Try.f3 13) = laws_FnLaidOver.T13 := by kernel_rfl
theorem laws_FnLaidOver.bits13 : waitsOk laws_FnLaidOver.T13.2 laws_FnLaidOver.B13 = true := by kernel_rfl
def laws_FnLaidOver.T18 : Bool × List (List Nat × List Nat) := (true, [([], []), ([], []), ([], []), ([1, 2], [1, 2]), ([3], [3]), ([4], [4]), ([], []), ([], []), ([6, 7], [6, 7]), ([8], [8]), ([9], [9]), ([0, 5, 10], [0, 5, 10]), ([11, 11], [11]), ([12], [12]), ([12], [12]), ([13, 14, 12], [12, 13, 14]), ([15, 12], [12, 15]), ([16, 12], [12, 16]), ([12], [12]), ([12], [12]), ([18, 19, 12], [12, 18, 19]), ([20, 12], [12, 20]), ([21, 12], [12, 21]), ([17, 22, 12], [12, 17, 22]), ([12, 23], [12, 23]), ([24, 12], [24]), ([25], [25]), ([25], [25]), ([26, 27, 25], [25, 26, 27]), ([28, 25], [25, 28]), ([29, 25], [25, 29]), ([25], [25]), ([25], [25]), ([31, 32, 25], [25, 31, 32]), ([33, 25], [25, 33]), ([34, 25], [25, 34]), ([30, 35, 25], [25, 30, 35]), ([25, 36], [25, 36])])
def laws_FnLaidOver.B18 : List Nat := [0, 0, 0, 6, 14, 30, 0, 0, 192, 448, 960, 2047, 4095, 8191, 8191, 32767, 65535, 131071, 8191, 8191, 794623, 1843199, 3940351, 8388607, 16777215, 33554431, 67108863, 67108863, 268435455, 536870911, 1073741823, 67108863, 67108863, 6509559807, 15099494399, 32279363583, 68719476735, 137438953471]
theorem laws_FnLaidOver.tab18 : rtab .any (opsOf Try.f3 18) = laws_FnLaidOver.T18 := by kernel_rfl
theorem laws_FnLaidOver.bits18 : waitsOk laws_FnLaidOver.T18.2 laws_FnLaidOver.B18 = true := by kernel_rfl
def laws_FnLaidOver.T20 : Bool × List (List Nat × List Nat) := (true, [([], []), ([], []), ([], []), ([], []), ([1, 2, 3], [1, 2, 3]), ([4], [4]), ([5], [5]), ([0, 6], [0, 6]), ([7, 4], [7]), ([8], [8]), ([8], [8]), ([8], [8]), ([9, 10, 11, 8, 8], [8, 9, 10, 11]), ([8], [8]), ([8], [8]), ([8], [8]), ([13, 14, 15, 12, 8], [8, 13, 14, 15]), ([12, 16, 8], [8, 12, 16]), ([8, 17], [8, 17]), ([18, 16], [18]), ([19], [19]), ([19], [19]), ([20, 21, 19, 19], [19, 20, 21]), ([19, 22], [19, 22]), ([23, 22, 0, 1, 2, 3, 4, 5, 6, 7, 8, 9, 10, 11, 12, 13, 14, 15, 16, 17, 18, 19, 20, 21, 22, 23], [23])])
def laws_FnLaidOver.B20 : List Nat := [0, 0, 0, 0, 14, 30, 62, 127, 255, 511, 511, 511, 4095, 511, 511, 511, 65535, 131071, 262143, 524287, 1048575, 1048575, 4194303, 8388607, 16777215]
theorem laws_FnLaidOver.tab20 : rtab .any (opsOf Try.f3 20) = laws_FnLaidOver.T20 := by kernel_rfl
theorem laws_FnLaidOver.bits20 : waitsOk laws_FnLaidOver.T20.2 laws_FnLaidOver.B20 = true := by kernel_rfl
set_option maxHeartbeats 8000000 in
set_option maxRecDepth 100000 in
theorem laws_FnLaidOver.calls (k : Nat) (A0 : Option Addr) (c0 : Nat) (l0 : List Int) (r : Bool) (w : World) (hr0 : Kd.C (Kd.int .u8) w A0 l0.length l0) (hc0 : l0.length ≤ c0) (h : laws_FnLaidOver.f k l0 = some r) :
 Calls Try.prog 3 #[.slice A0 l0.length c0] w fun e w' => e = .returned (.bool r) ∧ Below w.heap.size w w' := by
 have hu27 := Try.underlying27
 have HR0 := Aside0.mk hr0
 have HC0 := Aside0.mk hc0
 clear hr0 hc0
 have HB := Aside0.mk (Below.refl w.heap.size w)
 have H : ((laws_big.f l0).bind fun t339 => (if t339 = true then (some true) else ((spec_DrawTree.f k l0).bind fun bt340 => ((impl_Layout.f k bt340.1 bt340.2.1 bt340.2.2.1 bt340.2.2.2.1 bt340.2.2.2.2 64).bind fun bt354 => (if bt354.2 = true then ((laws_spans.f k bt354.1).bind fun t358 => ((impl_Segs.f k bt340.1 bt340.2.1 bt340.2.2.1).bind fun t361 => ((laws_sameTexts.f k t358 t361).bind fun t364 => (if t364 = true then (if 0 < (bt354.1.length : Int) then (laws_FnLaidOver.j0 k bt340.2.2.2.1 bt340.2.2.2.2 bt354.1 (((rd_T38 bt354.1 0).f1) != 64) bt340.1 bt340.2.1 bt340.2.2.1) else (none)) else (laws_FnLaidOver.j0 k bt340.2.2.2.1 bt340.2.2.2.2 bt354.1 true bt340.1 bt340.2.1 bt340.2.2.1))))) else (laws_FnLaidOver.j0 k bt340.2.2.2.1 bt340.2.2.2.2 bt354.1 true bt340.1 bt340.2.1 bt340.2.2.1)))))) = some r := h
 clear h
 replace H := Option.bind_eq_some_iff.mp H
 obtain ⟨t339, A20, H⟩ := H
 replace H : (if t339 = true then (some true) else ((spec_DrawTree.f k l0).bind fun bt340 => ((impl_Layout.f k bt340.1 bt340.2.1 bt340.2.2.1 bt340.2.2.2.1 bt340.2.2.2.2 64).bind fun bt354 => (if bt354.2 = true then ((laws_spans.f k bt354.1).bind fun t358 => ((impl_Segs.f k bt340.1 bt340.2.1 bt340.2.2.1).bind fun t361 => ((laws_sameTexts.f k t358 t361).bind fun t364 => (if t364 = true then (if 0 < (bt354.1.length : Int) then (laws_FnLaidOver.j0 k bt340.2.2.2.1 bt340.2.2.2.2 bt354.1 (((rd_T38 bt354.1 0).f1) != 64) bt340.1 bt340.2.1 bt340.2.2.1) else (none)) else (laws_FnLaidOver.j0 k bt340.2.2.2.1 bt340.2.2.2.2 bt354.1 true bt340.1 bt340.2.1 bt340.2.2.1))))) else (laws_FnLaidOver.j0 k bt340.2.2.2.1 bt340.2.2.2.2 bt354.1 true bt340.1 bt340.2.1 bt340.2.2.1))))) = some r := H
 have A2 := Aside0.mk A20
 clear A20
 by_cases c3 : t339 = true
 ·subst c3
  have H1 : (some true) = some r := by rw [if_pos rfl] at H; exact H
  clear H
  have H := H1
  clear H1
  obtain rfl := Option.some.inj H
  go_enter Try.func3, Try.ntmps3
  go_wp2_with (first | ((with_reducible refine gate_callee (f := 5) rfl ?_); refine gl_ 12 Try.func5 #[.slice A0 l0.length c0] ?_; (with_reducible refine (laws_big.calls _ _ l0 true _ ?side1 ?side2 A2.out).mono ?_); (case side1 => exact z_69 HR0.out); (case side2 => exact HC0.out); rintro e w' ⟨rfl, ⟨nd, rfl⟩⟩; refine ⟨_, rfl, ?_⟩))
  go_ret
  exact ⟨z_9, z_4 HB.out⟩
 ·replace c3 := Bool.eq_false_iff.mpr c3
  subst c3
  have H1 : ((spec_DrawTree.f k l0).bind fun bt340 => ((impl_Layout.f k bt340.1 bt340.2.1 bt340.2.2.1 bt340.2.2.2.1 bt340.2.2.2.2 64).bind fun bt354 => (if bt354.2 = true then ((laws_spans.f k bt354.1).bind fun t358 => ((impl_Segs.f k bt340.1 bt340.2.1 bt340.2.2.1).bind fun t361 => ((laws_sameTexts.f k t358 t361).bind fun t364 => (if t364 = true then (if 0 < (bt354.1.length : Int) then (laws_FnLaidOver.j0 k bt340.2.2.2.1 bt340.2.2.2.2 bt354.1 (((rd_T38 bt354.1 0).f1) != 64) bt340.1 bt340.2.1 bt340.2.2.1) else (none)) else (laws_FnLaidOver.j0 k bt340.2.2.2.1 bt340.2.2.2.2 bt354.1 true bt340.1 bt340.2.1 bt340.2.2.1))))) else (laws_FnLaidOver.j0 k bt340.2.2.2.1 bt340.2.2.2.2 bt354.1 true bt340.1 bt340.2.1 bt340.2.2.1)))) = some r := by rw [if_neg (show ¬ (false = true) by decide)] at H; exact H
  clear H
  have H := H1
  clear H1
  replace H := Option.bind_eq_some_iff.mp H
  obtain ⟨⟨t340, t341, t344, t347, t350⟩, A40, H⟩ := H
  replace H : ((impl_Layout.f k t340 t341 t344 t347 t350 64).bind fun bt354 => (if bt354.2 = true then ((laws_spans.f k bt354.1).bind fun t358 => ((impl_Segs.f k t340 t341 t344).bind fun t361 => ((laws_sameTexts.f k t358 t361).bind fun t364 => (if t364 = true then (if 0 < (bt354.1.length : Int) then (laws_FnLaidOver.j0 k t347 t350 bt354.1 (((rd_T38 bt354.1 0).f1) != 64) t340 t341 t344) else (none)) else (laws_FnLaidOver.j0 k t347 t350 bt354.1 true t340 t341 t344))))) else (laws_FnLaidOver.j0 k t347 t350 bt354.1 true t340 t341 t344))) = some r := H
  have A4 := Aside0.mk A40
  clear A40
  replace H := Option.bind_eq_some_iff.mp H
  obtain ⟨⟨t354, t357⟩, A50, H⟩ := H
  replace H : (if t357 = true then ((laws_spans.f k t354).bind fun t358 => ((impl_Segs.f k t340 t341 t344).bind fun t361 => ((laws_sameTexts.f k t358 t361).bind fun t364 => (if t364 = true then (if 0 < (t354.length : Int) then (laws_FnLaidOver.j0 k t347 t350 t354 (((rd_T38 t354 0).f1) != 64) t340 t341 t344) else (none)) else (laws_FnLaidOver.j0 k t347 t350 t354 true t340 t341 t344))))) else (laws_FnLaidOver.j0 k t347 t350 t354 true t340 t341 t344)) = some r := H
  have A5 := Aside0.mk A50
  clear A50
  have HC6 := Aside0.mk H
  clear H
  go_enter Try.func3, Try.ntmps3
  go_upto_region 5 with (first | ((with_reducible refine gate_callee (f := 5) rfl ?_); refine gl_ 12 Try.func5 #[.slice A0 l0.length c0] ?_; (with_reducible refine (laws_big.calls _ _ l0 false _ ?side1 ?side2 A2.out).mono ?_); (case side1 => exact z_69 HR0.out); (case side2 => exact HC0.out); rintro e w' ⟨rfl, ⟨nd, rfl⟩⟩; refine ⟨_, rfl, ?_⟩) | ((with_reducible refine gate_callee (f := 6) rfl ?_); refine gl_ 15 Try.func6 #[.slice A0 l0.length c0] ?_; (with_reducible refine (spec_DrawTree.calls k _ _ l0 t340 t341 t344 t347 t350 _ ?side1 ?side2 A4.out).mono ?_); (case side1 => exact z_69 HR0.out); (case side2 => exact HC0.out); rintro e w7 ⟨v342, v345, v348, v351, rfl, ho0, ho1, ho2, ho3, hb⟩; refine ⟨_, rfl, ?_⟩; have n0_ := Aside0.mk (Kd.R_lower ho0 (below_size (z_4 HB.out))); have n1_ := Aside0.mk (Kd.R_lower ho1 (below_size (z_4 HB.out))); have n2_ := Aside0.mk (Kd.R_lower ho2 (below_size (z_4 HB.out))); have n3_ := Aside0.mk (Kd.R_lower ho3 (below_size (z_4 HB.out))); have n4_ := Aside0.mk (below_step (z_4 HB.out) hb); clear HB; have HO343 := n0_; have HO346 := n1_; have HO349 := n2_; have HO352 := n3_; have HB := n4_; clear n0_ n1_ n2_ n3_ n4_; (try clear hb); (try clear hb2); (try clear hk); (try clear hi); (try clear ho0); (try clear ho1); (try clear ho2); (try clear ho3)) | ((with_reducible refine gate_dst (N := 3) rfl ?_); refine box_event ?hg (N := 3) ?hd (cs := #[.string (⟨#[]⟩ : ByteArray), .slice none 0 0, .slice none 0 0]) (t := 27) ?hr ?_; (case hd => rfl); (case hg => rfl); (case hr => first | (go_simp; done) | (go_simp; rfl)); intro gb353 hg w8 hbox hb; have n0_ := Aside0.mk (Kd.R_below (z_17 HO343.out) hb); have n1_ := Aside0.mk (Kd.R_below (Kd.R_elderB (z_17 HO346.out) gb353 (Nat.le_of_eq hg.symm)) hb); have n2_ := Aside0.mk (Kd.R_below (z_17 HO349.out) hb); have n3_ := Aside0.mk (Kd.R_below (z_17 HO352.out) hb); have n4_ := Aside0.mk (below_step (z_4 HB.out) hb); have n5_ := Aside0.mk (hbox); have n6_ := Aside0.mk ((z_6 HB.out : w.heap.size ≤ gb353)); have n7_ := Aside0.mk ((z_6 HB.out : w.heap.size ≤ gb353)); clear HO343; clear HO346; clear HO349; clear HO352; clear HB; have HO343 := n0_; have HO346 := n1_; have HO349 := n2_; have HO352 := n3_; have HB := n4_; have BK353 := n5_; have GW353 := n6_; have GE353 := n7_; clear n0_ n1_ n2_ n3_ n4_ n5_ n6_ n7_; clear hb hbox hg; have hcz9_0 : w8.cell? ⟨gb353, 0, none⟩ = some (.string (⟨#[]⟩ : ByteArray)) := (blk_cell BK353.out 0).trans rfl; have hcz9_1 : w8.cell? ⟨gb353, 1, none⟩ = some (.slice none 0 0) := (blk_cell BK353.out 1).trans rfl; have hcz9_2 : w8.cell? ⟨gb353, 2, none⟩ = some (.slice none 0 0) := (blk_cell BK353.out 2).trans rfl; have hfz9_0 := blk_frozen BK353.out 0; have hfz9_1 := blk_frozen BK353.out 1; have hfz9_2 := blk_frozen BK353.out 2; obtain ⟨Ao10, co10, eo10⟩ := Kd.R_slice HO343.out; subst eo10; obtain ⟨Ao11, co11, eo11⟩ := Kd.R_slice HO346.out; subst eo11; obtain ⟨Ao12, co12, eo12⟩ := Kd.R_slice HO349.out; subst eo12; obtain ⟨Ao13, co13, eo13⟩ := Kd.R_slice HO352.out; subst eo13) | ((with_reducible refine gate_callee (f := 7) rfl ?_); refine gl_ 23 Try.func7 #[.agg #[.string t340, .slice Ao10 t341.length co10, .slice Ao11 t344.length co11], .slice Ao12 t347.length co12, .slice Ao13 t350.length co13, .int .i64 64] ?_; (with_reducible refine (impl_Layout.calls k t340 _ _ t341 _ _ t344 _ _ t347 _ _ t350 64 t354 t357 _ ?side1 ?side2 ?side3 ?side4 ?side5 ?side6 ?side7 ?side8 A5.out).mono ?_); (case side1 => refine (Kd.R_reads' (e := 9) (base := w.heap.size) (ok := fun k_ => some k_ ≠ (.slice Ao12 t347.length co12 : Value).ownBlock) (n := t341.length) (c := co10) ?_).2.2; exact z_70 HO343.out BK353.out); (case side2 => exact (Kd.R_reads' HO343.out).2.1); (case side3 => refine (Kd.R_reads' (e := 27) (base := w.heap.size) (ok := fun k_ => ((some k_ ≠ (.slice Ao10 t341.length co10 : Value).ownBlock ∧ some k_ ≠ (.slice Ao12 t347.length co12 : Value).ownBlock) ∧ k_ ≠ gb353)) (n := t344.length) (c := co11) ?_).2.2; exact z_71 HO346.out); (case side4 => exact (Kd.R_reads' HO346.out).2.1); (case side5 => refine (Kd.R_reads' (e := 9) (base := w.heap.size) (ok := fun k_ => some k_ ≠ (.slice Ao10 t341.length co10 : Value).ownBlock) (n := t347.length) (c := co12) ?_).2.2; exact z_70 HO349.out BK353.out); (case side6 => exact (Kd.R_reads' HO349.out).2.1); (case side7 => refine (Kd.R_reads' (e := 3) (base := w.heap.size) (ok := fun k_ => True) (n := t350.length) (c := co13) ?_).2.2; exact z_70 HO352.out BK353.out); (case side8 => exact (Kd.R_reads' HO352.out).2.1); rintro e w14 ⟨v355, rfl, ho0, hb⟩; refine ⟨_, rfl, ?_⟩; have n0_ := Aside0.mk (Kd.R_below (z_70 HO343.out BK353.out) hb); have n1_ := Aside0.mk (Kd.R_below (z_71 HO346.out) hb); have n2_ := Aside0.mk (Kd.R_below (z_70 HO349.out BK353.out) hb); have n3_ := Aside0.mk (Kd.R_below (z_70 HO352.out BK353.out) hb); have n4_ := Aside0.mk (Kd.R_lower ho0 (below_size (z_8 HB.out GE353.out))); have n5_ := Aside0.mk (blk_below (g := gb353) (o := .cells #[.string t340, .slice Ao10 t341.length co10, .slice Ao11 t344.length co11] 27 (0, 0)) (by (with_reducible repeat (first | refine blk_drewN ?_ _ | refine blk_drew ?_ | refine blk_alloc ?_ _)); refine blk_put (cs := #[.string t340, .slice Ao10 t341.length co10, .slice none 0 0]) ?_ 2 _ rfl; (with_reducible repeat (first | refine blk_drewN ?_ _ | refine blk_drew ?_ | refine blk_alloc ?_ _)); refine blk_put (cs := #[.string t340, .slice none 0 0, .slice none 0 0]) ?_ 1 _ rfl; (with_reducible repeat (first | refine blk_drewN ?_ _ | refine blk_drew ?_ | refine blk_alloc ?_ _)); refine blk_put (cs := #[.string (⟨#[]⟩ : ByteArray), .slice none 0 0, .slice none 0 0]) ?_ 0 _ rfl; (with_reducible repeat (first | refine blk_drewN ?_ _ | refine blk_drew ?_ | refine blk_alloc ?_ _)); exact BK353.out) hb); have n6_ := Aside0.mk (below_step (z_8 HB.out GE353.out) hb); clear HO343; clear HO346; clear HO349; clear HO352; clear BK353; clear HB; have HO343 := n0_; have HO346 := n1_; have HO349 := n2_; have HO352 := n3_; have HO356 := n4_; have BK353 := n5_; have HB := n6_; clear n0_ n1_ n2_ n3_ n4_ n5_ n6_; (try clear hb); (try clear hb2); (try clear hk); (try clear hi); (try clear ho0)))
  (try simp only [Act.put, List.setIfInBounds_toArray, List.set_cons_zero, List.set_cons_succ])
  go_cut [42] (fun v42 wc => ∃ (kq : Nat) (x42_5 : Bool), v42 = .bool x42_5 ∧ Aside0 (laws_FnLaidOver.j0 kq t347 t350 t354 x42_5 t340 t341 t344 = some r) ∧ Aside0 (kq ≤ k) ∧ Aside0 (Kd.R Kd.string 9 wc w.heap.size (fun k_ => some k_ ≠ ((.slice Ao10 t341.length co10) : Value).ownBlock) (.slice Ao12 t347.length co12) t347) ∧ Aside0 (Kd.R (Kd.int .i64) 3 wc w.heap.size (fun _ => True) (.slice Ao13 t350.length co13) t350) ∧ Aside0 (Kd.R k38 38 wc w.heap.size (fun _ => True) v355 t354) ∧ Aside0 (Kd.R Kd.string 9 wc w.heap.size (fun k_ => some k_ ≠ ((.slice Ao12 t347.length co12) : Value).ownBlock) (.slice Ao10 t341.length co10) t341) ∧ Aside0 (Kd.R k27 27 wc w.heap.size (fun k_ => some k_ ≠ ((.slice Ao12 t347.length co12) : Value).ownBlock ∧ some k_ ≠ ((.slice Ao10 t341.length co10) : Value).ownBlock ∧ k_ ≠ gb353) (.slice Ao11 t344.length co11) t344) ∧ Aside0 (wc.heap[gb353]? = some (.cells #[.string t340, (.slice Ao10 t341.length co10), (.slice Ao11 t344.length co11)] 27 (0, 0))) ∧ Aside0 (Below w.heap.size w wc))
  case first =>
   have H := HC6.out
   clear HC6
   by_cases c15 : t357 = true
   ·subst c15
    have H1 : ((laws_spans.f k t354).bind fun t358 => ((impl_Segs.f k t340 t341 t344).bind fun t361 => ((laws_sameTexts.f k t358 t361).bind fun t364 => (if t364 = true then (if 0 < (t354.length : Int) then (laws_FnLaidOver.j0 k t347 t350 t354 (((rd_T38 t354 0).f1) != 64) t340 t341 t344) else (none)) else (laws_FnLaidOver.j0 k t347 t350 t354 true t340 t341 t344))))) = some r := by rw [if_pos rfl] at H; exact H
    clear H
    have H := H1
    clear H1
    replace H := Option.bind_eq_some_iff.mp H
    obtain ⟨t358, A160, H⟩ := H
    replace H : ((impl_Segs.f k t340 t341 t344).bind fun t361 => ((laws_sameTexts.f k t358 t361).bind fun t364 => (if t364 = true then (if 0 < (t354.length : Int) then (laws_FnLaidOver.j0 k t347 t350 t354 (((rd_T38 t354 0).f1) != 64) t340 t341 t344) else (none)) else (laws_FnLaidOver.j0 k t347 t350 t354 true t340 t341 t344)))) = some r := H
    have A16 := Aside0.mk A160
    clear A160
    replace H := Option.bind_eq_some_iff.mp H
    obtain ⟨t361, A170, H⟩ := H
    replace H : ((laws_sameTexts.f k t358 t361).bind fun t364 => (if t364 = true then (if 0 < (t354.length : Int) then (laws_FnLaidOver.j0 k t347 t350 t354 (((rd_T38 t354 0).f1) != 64) t340 t341 t344) else (none)) else (laws_FnLaidOver.j0 k t347 t350 t354 true t340 t341 t344))) = some r := H
    have A17 := Aside0.mk A170
    clear A170
    replace H := Option.bind_eq_some_iff.mp H
    obtain ⟨t364, A180, H⟩ := H
    replace H : (if t364 = true then (if 0 < (t354.length : Int) then (laws_FnLaidOver.j0 k t347 t350 t354 (((rd_T38 t354 0).f1) != 64) t340 t341 t344) else (none)) else (laws_FnLaidOver.j0 k t347 t350 t354 true t340 t341 t344)) = some r := H
    have A18 := Aside0.mk A180
    clear A180
    by_cases c19 : t364 = true
    ·subst c19
     have H1 : (if 0 < (t354.length : Int) then (laws_FnLaidOver.j0 k t347 t350 t354 (((rd_T38 t354 0).f1) != 64) t340 t341 t344) else (none)) = some r := by rw [if_pos rfl] at H; exact H
     clear H
     have H := H1
     clear H1
     by_cases c20 : 0 < (t354.length : Int)
     ·rw [if_pos c20] at H
      have c20b0 : decide (0 < (t354.length : Int)) = true := decide_eq_true c20
      have c20b1 : decide (0 < t354.length) = true := decide_eq_true (by omega)
      clear c20
      (first | rw [c20b0] | (simp only [i64_w, i32_w]; rw [c20b0]) | skip)
      have H' := Aside0.mk H
      clear H
      try go_wp2
      have n0_ := Aside0.mk (Kd.R_drew HO343.out)
      have n1_ := Aside0.mk (Kd.R_drew HO346.out)
      have n2_ := Aside0.mk (Kd.R_drew HO349.out)
      have n3_ := Aside0.mk (Kd.R_drew HO352.out)
      have n4_ := Aside0.mk (Kd.R_drew HO356.out)
      have n5_ := Aside0.mk (blk_drew BK353.out)
      have n6_ := Aside0.mk (below_drew1 HB.out)
      clear HO343
      clear HO346
      clear HO349
      clear HO352
      clear HO356
      clear BK353
      clear HB
      have HO343 := n0_
      have HO346 := n1_
      have HO349 := n2_
      have HO352 := n3_
      have HO356 := n4_
      have BK353 := n5_
      have HB := n6_
      clear n0_ n1_ n2_ n3_ n4_ n5_ n6_
      obtain ⟨Ao22, co22, eo22⟩ := Kd.R_slice HO356.out
      (first | subst eo22 | (injection eo22 with f1_ f2_ f3_; have f4_ := f1_.symm; have f5_ := f3_.symm; clear f1_ f2_ f3_; subst f4_; subst f5_))
      have p365 : 0 ≤ (0 : Int) := (by omega)
      have q365 : 0 < (t354.length : Int) := of_decide_eq_true z_5
      obtain ⟨ad365, e365, hx365_0, hx365_1, hx365_2⟩ := at_T38 (Kd.R_reads' HO356.out).2.2 0 p365 q365
      cases e365
      have qi365 : (0 < t354.length) = True := eq_true (by omega)
      (try rw [show ((0 : Int)).toNat = 0 from rfl] at hx365_0)
      (try rw [show 0 * 3 = 0 from rfl] at hx365_0)
      (try rw [Addr.add_zero'] at hx365_0)
      (try rw [show ((0 : Int)).toNat = 0 from rfl] at hx365_1)
      (try rw [show 0 * 3 = 0 from rfl] at hx365_1)
      (try rw [Addr.add_zero'] at hx365_1)
      (try rw [show ((0 : Int)).toNat = 0 from rfl] at hx365_2)
      (try rw [show 0 * 3 = 0 from rfl] at hx365_2)
      (try rw [Addr.add_zero'] at hx365_2)
      replace p365 := eq_true p365
      replace q365 := eq_true q365
      refine st_ 17 (fun w' => w'.cell? ⟨gb353, 0, none⟩ = some (.string t340) ∧ w'.cell? ⟨gb353, 1, none⟩ = some (.slice Ao10 t341.length co10) ∧ w'.cell? ⟨gb353, 2, none⟩ = some (.slice Ao11 t344.length co11) ∧ w'.cell? ad365 = some (.string ((rd_T38 t354 0).f0)) ∧ w'.cell? ⟨ad365.block, ad365.off + 1, none⟩ = some (.int .i64 ((rd_T38 t354 0).f1)) ∧ w'.cell? ⟨ad365.block, ad365.off + 2, none⟩ = some (.int .i64 ((rd_T38 t354 0).f2))) [] ⟨(blk_cell BK353.out 0).trans rfl, (blk_cell BK353.out 1).trans rfl, (blk_cell BK353.out 2).trans rfl, hx365_0, hx365_1, hx365_2⟩ (fun hHeld => ?_); refine with_tabW laws_FnLaidOver.tab5 laws_FnLaidOver.bits5 (fun HT_ HW_ => ?_)
      generalize w14.drew = w21 at HO343 HO346 HO349 HO352 HO356 BK353 HB hx365_0 hx365_1 hx365_2 hHeld ⊢
      refine go_ ?_ [0, 1, 2, 3, 1005] ?_
      refine on_ 4 30 (fun K hK => ?_)
      refine gs_ Try.func9 #[.slice (some ad365) t354.length co22] ?_
      with_reducible refine (laws_spans.calls k _ _ t354 t358 _ ?side1 ?side2 A16.out).mono ?_
      (case side1 => exact z_47 HO356.out)
      (case side2 => exact (Kd.R_reads' HO356.out).2.1)
      rintro e w23 ⟨v359, rfl, ho0, hb⟩
      have HS3_ := (hb.cell (World.block_lt_of_cell? _ _ (hHeld.2.2.2.1))).trans (hHeld.2.2.2.1)
      have HS4_ := (hb.cell (World.block_lt_of_cell? _ _ (hHeld.2.2.2.2.1))).trans (hHeld.2.2.2.2.1)
      have HS5_ := (hb.cell (World.block_lt_of_cell? _ _ (hHeld.2.2.2.2.2))).trans (hHeld.2.2.2.2.2)
      refine ⟨_, rfl, ?_⟩
      have n0_ := Aside0.mk (Kd.R_elder' (z_17 HO343.out) (Kd.R_base ho0) hb)
      have n1_ := Aside0.mk (Kd.R_elder' (z_17 HO346.out) (Kd.R_base ho0) hb)
      have n2_ := Aside0.mk (Kd.R_elder' (z_17 HO349.out) (Kd.R_base ho0) hb)
      have n3_ := Aside0.mk (Kd.R_below (z_17 HO352.out) hb)
      have n4_ := Aside0.mk (Kd.R_below (z_17 HO356.out) hb)
      have n5_ := Aside0.mk (Kd.R_lower (Kd.R_new' (Kd.R_new' ho0 (Kd.R_lt (z_17 HO343.out))) (Kd.R_lt (z_17 HO349.out))) (below_size (z_8 HB.out GE353.out)))
      have n6_ := Aside0.mk (blk_below (g := gb353) (o := .cells #[.string t340, .slice Ao10 t341.length co10, .slice Ao11 t344.length co11] 27 (0, 0)) (z_7 BK353.out) hb)
      have n7_ := Aside0.mk (below_step (z_8 HB.out GE353.out) hb)
      clear HO343
      clear HO346
      clear HO349
      clear HO352
      clear HO356
      clear BK353
      clear HB
      have HO343 := n0_
      have HO346 := n1_
      have HO349 := n2_
      have HO352 := n3_
      have HO356 := n4_
      have HO360 := n5_
      have BK353 := n6_
      have HB := n7_
      clear n0_ n1_ n2_ n3_ n4_ n5_ n6_ n7_
      (try clear hb)
      (try clear hb2)
      (try clear hk)
      (try clear hi)
      (try clear ho0)
      refine hK.out _ _ ⟨(blk_cell BK353.out 0).trans rfl, (blk_cell BK353.out 1).trans rfl, (blk_cell BK353.out 2).trans rfl, HS3_, HS4_, HS5_⟩ (fun hHeld => ?_)
      clear hK K
      refine nm_ ?_
      refine on_ 6 32 (fun K hK => ?_)
      refine gs_ Try.func10 #[.agg #[.string t340, .slice Ao10 t341.length co10, .slice Ao11 t344.length co11]] ?_
      with_reducible refine (impl_Segs.calls k t340 _ _ t341 _ _ t344 t361 _ ?side1 ?side2 ?side3 ?side4 A17.out).mono ?_
      (case side1 => exact z_47 HO343.out)
      (case side2 => exact (Kd.R_reads' HO343.out).2.1)
      (case side3 => exact z_47 HO346.out)
      (case side4 => exact (Kd.R_reads' HO346.out).2.1)
      rintro e w24 ⟨v362, rfl, ho0, hb⟩
      have HS3_ := (hb.cell (World.block_lt_of_cell? _ _ (hHeld.2.2.2.1))).trans (hHeld.2.2.2.1)
      have HS4_ := (hb.cell (World.block_lt_of_cell? _ _ (hHeld.2.2.2.2.1))).trans (hHeld.2.2.2.2.1)
      have HS5_ := (hb.cell (World.block_lt_of_cell? _ _ (hHeld.2.2.2.2.2))).trans (hHeld.2.2.2.2.2)
      refine ⟨_, rfl, ?_⟩
      have n0_ := Aside0.mk (Kd.R_elder' (z_17 HO343.out) (Kd.R_base ho0) hb)
      have n1_ := Aside0.mk (Kd.R_elder' (z_17 HO346.out) (Kd.R_base ho0) hb)
      have n2_ := Aside0.mk (Kd.R_elder' (z_17 HO349.out) (Kd.R_base ho0) hb)
      have n3_ := Aside0.mk (Kd.R_below (z_17 HO352.out) hb)
      have n4_ := Aside0.mk (Kd.R_below (z_17 HO356.out) hb)
      have n5_ := Aside0.mk (Kd.R_elder' (z_17 HO360.out) (Kd.R_base ho0) hb)
      have n6_ := Aside0.mk (Kd.R_lower (Kd.R_new' (Kd.R_new' (Kd.R_new' ho0 (Kd.R_lt (z_17 HO343.out))) (Kd.R_lt (z_17 HO349.out))) (Kd.R_lt (z_17 HO360.out))) (below_size (z_8 HB.out GE353.out)))
      have n7_ := Aside0.mk (blk_below (g := gb353) (o := .cells #[.string t340, .slice Ao10 t341.length co10, .slice Ao11 t344.length co11] 27 (0, 0)) (z_7 BK353.out) hb)
      have n8_ := Aside0.mk (below_step (z_8 HB.out GE353.out) hb)
      clear HO343
      clear HO346
      clear HO349
      clear HO352
      clear HO356
      clear HO360
      clear BK353
      clear HB
      have HO343 := n0_
      have HO346 := n1_
      have HO349 := n2_
      have HO352 := n3_
      have HO356 := n4_
      have HO360 := n5_
      have HO363 := n6_
      have BK353 := n7_
      have HB := n8_
      clear n0_ n1_ n2_ n3_ n4_ n5_ n6_ n7_ n8_
      (try clear hb)
      (try clear hb2)
      (try clear hk)
      (try clear hi)
      (try clear ho0)
      obtain ⟨Ao25, co25, eo25⟩ := Kd.R_slice HO360.out
      (first | subst eo25 | (injection eo25 with f1_ f2_ f3_; have f4_ := f1_.symm; have f5_ := f3_.symm; clear f1_ f2_ f3_; subst f4_; subst f5_))
      obtain ⟨Ao26, co26, eo26⟩ := Kd.R_slice HO363.out
      (first | subst eo26 | (injection eo26 with f1_ f2_ f3_; have f4_ := f1_.symm; have f5_ := f3_.symm; clear f1_ f2_ f3_; subst f4_; subst f5_))
      refine hK.out _ _ ⟨(blk_cell BK353.out 0).trans rfl, (blk_cell BK353.out 1).trans rfl, (blk_cell BK353.out 2).trans rfl, HS3_, HS4_, HS5_⟩ (fun hHeld => ?_)
      clear hK K
      refine nm_ ?_
      refine on_ 7 33 (fun K hK => ?_)
      refine gs_ Try.func8 #[.slice Ao25 t358.length co25, .slice Ao26 t361.length co26] ?_
      with_reducible refine (laws_sameTexts.calls k _ _ t358 _ _ t361 true _ ?side1 ?side2 ?side3 ?side4 A18.out).mono ?_
      (case side1 => exact z_47 HO360.out)
      (case side2 => exact (Kd.R_reads' HO360.out).2.1)
      (case side3 => exact z_47 HO363.out)
      (case side4 => exact (Kd.R_reads' HO363.out).2.1)
      rintro e w' ⟨rfl, ⟨nd, rfl⟩⟩
      refine ⟨_, rfl, ?_⟩
      refine hK.out _ _ ⟨(blk_cell BK353.out 0).trans rfl, (blk_cell BK353.out 1).trans rfl, (blk_cell BK353.out 2).trans rfl, hHeld.2.2.2.1, hHeld.2.2.2.2.1, hHeld.2.2.2.2.2⟩ (fun hHeld => ?_)
      clear hK K
      refine nm_ ?_
      refine go_ ?_ [8, 9, 10, 11, 12, 13, 1014, 15, 16] ?_
      refine done_ (done_of HT_.out (by kernel_rfl)) ?_
      try go_wp2
      go_meet
      case rel => exact ⟨_, ((((rd_T38 t354 0).f1) != 64)), z_3, H', ⟨z_57⟩, ⟨z_72 HO349.out⟩, ⟨z_17 HO352.out⟩, ⟨z_17 HO356.out⟩, ⟨z_72 HO343.out⟩, ⟨z_73 HO346.out⟩, ⟨z_7 BK353.out⟩, ⟨z_8 HB.out GE353.out⟩⟩
     ·rw [if_neg c20] at H
      exact absurd H (by simp)
    ·replace c19 := Bool.eq_false_iff.mpr c19
     subst c19
     have H1 : (laws_FnLaidOver.j0 k t347 t350 t354 true t340 t341 t344) = some r := by rw [if_neg (show ¬ (false = true) by decide)] at H; exact H
     clear H
     have H := H1
     clear H1
     have H' := Aside0.mk H
     clear H
     try go_wp2
     have n0_ := Aside0.mk (Kd.R_drew HO343.out)
     have n1_ := Aside0.mk (Kd.R_drew HO346.out)
     have n2_ := Aside0.mk (Kd.R_drew HO349.out)
     have n3_ := Aside0.mk (Kd.R_drew HO352.out)
     have n4_ := Aside0.mk (Kd.R_drew HO356.out)
     have n5_ := Aside0.mk (blk_drew BK353.out)
     have n6_ := Aside0.mk (below_drew1 HB.out)
     clear HO343
     clear HO346
     clear HO349
     clear HO352
     clear HO356
     clear BK353
     clear HB
     have HO343 := n0_
     have HO346 := n1_
     have HO349 := n2_
     have HO352 := n3_
     have HO356 := n4_
     have BK353 := n5_
     have HB := n6_
     clear n0_ n1_ n2_ n3_ n4_ n5_ n6_
     obtain ⟨Ao28, co28, eo28⟩ := Kd.R_slice HO356.out
     (first | subst eo28 | (injection eo28 with f1_ f2_ f3_; have f4_ := f1_.symm; have f5_ := f3_.symm; clear f1_ f2_ f3_; subst f4_; subst f5_))
     refine st_ 17 (fun w' => w'.cell? ⟨gb353, 0, none⟩ = some (.string t340) ∧ w'.cell? ⟨gb353, 1, none⟩ = some (.slice Ao10 t341.length co10) ∧ w'.cell? ⟨gb353, 2, none⟩ = some (.slice Ao11 t344.length co11)) [] ⟨(blk_cell BK353.out 0).trans rfl, (blk_cell BK353.out 1).trans rfl, (blk_cell BK353.out 2).trans rfl⟩ (fun hHeld => ?_); refine with_tabW laws_FnLaidOver.tab5 laws_FnLaidOver.bits5 (fun HT_ HW_ => ?_)
     generalize w14.drew = w27 at HO343 HO346 HO349 HO352 HO356 BK353 HB hHeld ⊢
     refine go_ ?_ [0, 1, 2, 3, 1005] ?_
     refine on_ 4 30 (fun K hK => ?_)
     refine gs_ Try.func9 #[.slice Ao28 t354.length co28] ?_
     with_reducible refine (laws_spans.calls k _ _ t354 t358 _ ?side1 ?side2 A16.out).mono ?_
     (case side1 => exact z_47 HO356.out)
     (case side2 => exact (Kd.R_reads' HO356.out).2.1)
     rintro e w29 ⟨v359, rfl, ho0, hb⟩
     refine ⟨_, rfl, ?_⟩
     have n0_ := Aside0.mk (Kd.R_elder' (z_17 HO343.out) (Kd.R_base ho0) hb)
     have n1_ := Aside0.mk (Kd.R_elder' (z_17 HO346.out) (Kd.R_base ho0) hb)
     have n2_ := Aside0.mk (Kd.R_elder' (z_17 HO349.out) (Kd.R_base ho0) hb)
     have n3_ := Aside0.mk (Kd.R_below (z_17 HO352.out) hb)
     have n4_ := Aside0.mk (Kd.R_below (z_17 HO356.out) hb)
     have n5_ := Aside0.mk (Kd.R_lower (Kd.R_new' (Kd.R_new' ho0 (Kd.R_lt (z_17 HO343.out))) (Kd.R_lt (z_17 HO349.out))) (below_size (z_8 HB.out GE353.out)))
     have n6_ := Aside0.mk (blk_below (g := gb353) (o := .cells #[.string t340, .slice Ao10 t341.length co10, .slice Ao11 t344.length co11] 27 (0, 0)) (z_7 BK353.out) hb)
     have n7_ := Aside0.mk (below_step (z_8 HB.out GE353.out) hb)
     clear HO343
     clear HO346
     clear HO349
     clear HO352
     clear HO356
     clear BK353
     clear HB
     have HO343 := n0_
     have HO346 := n1_
     have HO349 := n2_
     have HO352 := n3_
     have HO356 := n4_
     have HO360 := n5_
     have BK353 := n6_
     have HB := n7_
     clear n0_ n1_ n2_ n3_ n4_ n5_ n6_ n7_
     (try clear hb)
     (try clear hb2)
     (try clear hk)
     (try clear hi)
     (try clear ho0)
     refine hK.out _ _ ⟨(blk_cell BK353.out 0).trans rfl, (blk_cell BK353.out 1).trans rfl, (blk_cell BK353.out 2).trans rfl⟩ (fun hHeld => ?_)
     clear hK K
     refine nm_ ?_
     refine on_ 6 32 (fun K hK => ?_)
     refine gs_ Try.func10 #[.agg #[.string t340, .slice Ao10 t341.length co10, .slice Ao11 t344.length co11]] ?_
     with_reducible refine (impl_Segs.calls k t340 _ _ t341 _ _ t344 t361 _ ?side1 ?side2 ?side3 ?side4 A17.out).mono ?_
     (case side1 => exact z_47 HO343.out)
     (case side2 => exact (Kd.R_reads' HO343.out).2.1)
     (case side3 => exact z_47 HO346.out)
     (case side4 => exact (Kd.R_reads' HO346.out).2.1)
     rintro e w30 ⟨v362, rfl, ho0, hb⟩
     refine ⟨_, rfl, ?_⟩
     have n0_ := Aside0.mk (Kd.R_elder' (z_17 HO343.out) (Kd.R_base ho0) hb)
     have n1_ := Aside0.mk (Kd.R_elder' (z_17 HO346.out) (Kd.R_base ho0) hb)
     have n2_ := Aside0.mk (Kd.R_elder' (z_17 HO349.out) (Kd.R_base ho0) hb)
     have n3_ := Aside0.mk (Kd.R_below (z_17 HO352.out) hb)
     have n4_ := Aside0.mk (Kd.R_below (z_17 HO356.out) hb)
     have n5_ := Aside0.mk (Kd.R_elder' (z_17 HO360.out) (Kd.R_base ho0) hb)
     have n6_ := Aside0.mk (Kd.R_lower (Kd.R_new' (Kd.R_new' (Kd.R_new' ho0 (Kd.R_lt (z_17 HO343.out))) (Kd.R_lt (z_17 HO349.out))) (Kd.R_lt (z_17 HO360.out))) (below_size (z_8 HB.out GE353.out)))
     have n7_ := Aside0.mk (blk_below (g := gb353) (o := .cells #[.string t340, .slice Ao10 t341.length co10, .slice Ao11 t344.length co11] 27 (0, 0)) (z_7 BK353.out) hb)
     have n8_ := Aside0.mk (below_step (z_8 HB.out GE353.out) hb)
     clear HO343
     clear HO346
     clear HO349
     clear HO352
     clear HO356
     clear HO360
     clear BK353
     clear HB
     have HO343 := n0_
     have HO346 := n1_
     have HO349 := n2_
     have HO352 := n3_
     have HO356 := n4_
     have HO360 := n5_
     have HO363 := n6_
     have BK353 := n7_
     have HB := n8_
     clear n0_ n1_ n2_ n3_ n4_ n5_ n6_ n7_ n8_
     (try clear hb)
     (try clear hb2)
     (try clear hk)
     (try clear hi)
     (try clear ho0)
     obtain ⟨Ao31, co31, eo31⟩ := Kd.R_slice HO360.out
     (first | subst eo31 | (injection eo31 with f1_ f2_ f3_; have f4_ := f1_.symm; have f5_ := f3_.symm; clear f1_ f2_ f3_; subst f4_; subst f5_))
     obtain ⟨Ao32, co32, eo32⟩ := Kd.R_slice HO363.out
     (first | subst eo32 | (injection eo32 with f1_ f2_ f3_; have f4_ := f1_.symm; have f5_ := f3_.symm; clear f1_ f2_ f3_; subst f4_; subst f5_))
     refine hK.out _ _ ⟨(blk_cell BK353.out 0).trans rfl, (blk_cell BK353.out 1).trans rfl, (blk_cell BK353.out 2).trans rfl⟩ (fun hHeld => ?_)
     clear hK K
     refine nm_ ?_
     refine on_ 7 33 (fun K hK => ?_)
     refine gs_ Try.func8 #[.slice Ao31 t358.length co31, .slice Ao32 t361.length co32] ?_
     with_reducible refine (laws_sameTexts.calls k _ _ t358 _ _ t361 false _ ?side1 ?side2 ?side3 ?side4 A18.out).mono ?_
     (case side1 => exact z_47 HO360.out)
     (case side2 => exact (Kd.R_reads' HO360.out).2.1)
     (case side3 => exact z_47 HO363.out)
     (case side4 => exact (Kd.R_reads' HO363.out).2.1)
     rintro e w' ⟨rfl, ⟨nd, rfl⟩⟩
     refine ⟨_, rfl, ?_⟩
     refine hK.out _ _ ⟨(blk_cell BK353.out 0).trans rfl, (blk_cell BK353.out 1).trans rfl, (blk_cell BK353.out 2).trans rfl⟩ (fun hHeld => ?_)
     clear hK K
     refine nm_ ?_
     refine go_ ?_ [8, 9, 10, 2011, 2012, 2013, 2014, 2015, 16] ?_
     refine done_ (done_of HT_.out (by kernel_rfl)) ?_
     try go_wp2
     go_meet
     case rel => exact ⟨_, (true), z_3, H', ⟨z_57⟩, ⟨z_72 HO349.out⟩, ⟨z_17 HO352.out⟩, ⟨z_17 HO356.out⟩, ⟨z_72 HO343.out⟩, ⟨z_73 HO346.out⟩, ⟨z_7 BK353.out⟩, ⟨z_8 HB.out GE353.out⟩⟩
   ·replace c15 := Bool.eq_false_iff.mpr c15
    subst c15
    have H1 : (laws_FnLaidOver.j0 k t347 t350 t354 true t340 t341 t344) = some r := by rw [if_neg (show ¬ (false = true) by decide)] at H; exact H
    clear H
    have H := H1
    clear H1
    have H' := Aside0.mk H
    clear H
    try go_wp2
    have n0_ := Aside0.mk (Kd.R_drew HO343.out)
    have n1_ := Aside0.mk (Kd.R_drew HO346.out)
    have n2_ := Aside0.mk (Kd.R_drew HO349.out)
    have n3_ := Aside0.mk (Kd.R_drew HO352.out)
    have n4_ := Aside0.mk (Kd.R_drew HO356.out)
    have n5_ := Aside0.mk (blk_drew BK353.out)
    have n6_ := Aside0.mk (below_drew1 HB.out)
    clear HO343
    clear HO346
    clear HO349
    clear HO352
    clear HO356
    clear BK353
    clear HB
    have HO343 := n0_
    have HO346 := n1_
    have HO349 := n2_
    have HO352 := n3_
    have HO356 := n4_
    have BK353 := n5_
    have HB := n6_
    clear n0_ n1_ n2_ n3_ n4_ n5_ n6_
    refine st_ 17 (fun w' => True) [] trivial (fun hHeld => ?_); refine with_tabW laws_FnLaidOver.tab5 laws_FnLaidOver.bits5 (fun HT_ HW_ => ?_)
    generalize w14.drew = w33 at HO343 HO346 HO349 HO352 HO356 BK353 HB hHeld ⊢
    refine go_ ?_ [0, 1, 2, 2003, 2004, 2005, 2006, 2007, 2008, 9, 10, 2011, 2012, 2013, 2014, 2015, 16] ?_
    refine done_ (done_of HT_.out (by kernel_rfl)) ?_
    try go_wp2
    go_meet
    case rel => exact ⟨_, (true), z_3, H', ⟨z_57⟩, ⟨z_17 HO349.out⟩, ⟨z_17 HO352.out⟩, ⟨z_17 HO356.out⟩, ⟨z_17 HO343.out⟩, ⟨by (with_reducible repeat (first | apply Kd.R_alloc | apply Kd.R_drewN | apply Kd.R_drew)); exact Kd.R_mono HO346.out (fun _ hk => ⟨hk.1.2, ⟨hk.1.1, hk.2⟩⟩)⟩, ⟨z_7 BK353.out⟩, ⟨z_8 HB.out GE353.out⟩⟩
  case rest =>
   clear HC6
   try clear c1
   try clear c2
   try clear p2
   try clear c8
   try clear c9
   try clear c10
   try clear c15
   try clear c19
   try clear c20
   obtain ⟨kq, x42_5, rfl, HA, HJ5, HO_4, HO_5, HO_6, HO_354001, HO_354002, BK353, HB⟩ := hcut
   cases kq with
   | zero => exact absurd HA.out (by simp [laws_FnLaidOver.j0])
   | succ kj5 =>
    have H := HA.out
    clear HA
    simp only [laws_FnLaidOver.j0] at H
    by_cases c34 : x42_5 = true
    ·subst c34
     have H1 : (some false) = some r := by rw [if_pos rfl] at H; exact H
     clear H
     have H := H1
     clear H1
     obtain rfl := Option.some.inj H
     go_wp2
     go_ret
     exact ⟨z_9, z_8 HB.out GE353.out⟩
    ·replace c34 := Bool.eq_false_iff.mpr c34
     subst c34
     have H1 : (laws_FnLaidOver.l0 kj5 t347 t350 t354 0 0 t340 t341 t344) = some r := by rw [if_neg (show ¬ (false = true) by decide)] at H; exact H
     clear H
     have H := H1
     clear H1
     have H' := Aside0.mk H
     clear H
     go_wp2
     go_loopg [8, 9] kj5 (fun kq v8 v9 w' => ∃ (x8_2 : Int) (x9_2 : Int), v8 = .int .i64 x8_2 ∧ v9 = .int .i64 x9_2 ∧ Aside0 (laws_FnLaidOver.l0 kq t347 t350 t354 x8_2 x9_2 t340 t341 t344 = some r) ∧ Aside0 (kq ≤ kj5) ∧ Aside0 (Kd.R Kd.string 9 w' w.heap.size (fun k_ => some k_ ≠ ((.slice Ao10 t341.length co10) : Value).ownBlock) (.slice Ao12 t347.length co12) t347) ∧ Aside0 (Kd.R (Kd.int .i64) 3 w' w.heap.size (fun _ => True) (.slice Ao13 t350.length co13) t350) ∧ Aside0 (Kd.R k38 38 w' w.heap.size (fun _ => True) v355 t354) ∧ Aside0 (Kd.R Kd.string 9 w' w.heap.size (fun k_ => some k_ ≠ ((.slice Ao12 t347.length co12) : Value).ownBlock) (.slice Ao10 t341.length co10) t341) ∧ Aside0 (Kd.R k27 27 w' w.heap.size (fun k_ => some k_ ≠ ((.slice Ao12 t347.length co12) : Value).ownBlock ∧ some k_ ≠ ((.slice Ao10 t341.length co10) : Value).ownBlock ∧ k_ ≠ gb353) (.slice Ao11 t344.length co11) t344) ∧ Aside0 (w'.heap[gb353]? = some (.cells #[.string t340, (.slice Ao10 t341.length co10), (.slice Ao11 t344.length co11)] 27 (0, 0))) ∧ Aside0 (Below w.heap.size w w'))
     case atStart => exact ⟨(0), (0), z_3, z_3, H', ⟨Nat.le_refl _⟩, ⟨z_17 HO_4.out⟩, ⟨z_17 HO_5.out⟩, ⟨z_17 HO_6.out⟩, ⟨z_17 HO_354001.out⟩, ⟨z_17 HO_354002.out⟩, ⟨z_7 BK353.out⟩, ⟨z_8 HB.out GE353.out⟩⟩
     case round =>
      clear H'
      try clear c1
      try clear c2
      try clear p2
      try clear c3
      try clear c8
      try clear c9
      try clear c10
      try clear c15
      try clear c19
      try clear c20
      try clear c34
      try clear p2
      obtain ⟨x8_2, x9_2, rfl, rfl, HA, HK2, HO_4, HO_5, HO_6, HO_354001, HO_354002, BK353, HB⟩ := hrel
      cases gk with
      | zero => exact absurd HA.out (by simp [laws_FnLaidOver.l0])
      | succ k2 =>
       have H := HA.out
       clear HA
       simp only [laws_FnLaidOver.l0] at H
       by_cases c35 : x9_2 < (t354.length : Int)
       ·rw [if_pos c35] at H
        have c35b0 : decide (x9_2 < (t354.length : Int)) = true := decide_eq_true c35
        clear c35
        by_cases c36 : 0 ≤ x9_2
        ·rw [if_pos c36] at H
         have c36b0 : decide (0 ≤ x9_2) = true := decide_eq_true c36
         clear c36
         have HC37 := Aside0.mk H
         clear H
         obtain ⟨Ao38, co38, eo38⟩ := Kd.R_slice HO_6.out
         subst eo38
         have p366 : 0 ≤ (x9_2 : Int) := of_decide_eq_true z_5
         have q366 : x9_2 < (t354.length : Int) := of_decide_eq_true z_5
         obtain ⟨ad366, e366, hx366_0, hx366_1, hx366_2⟩ := at_T38 (Kd.R_reads' HO_6.out).2.2 x9_2 p366 q366
         cases e366
         replace p366 := eq_true p366
         replace q366 := eq_true q366
         go_upto_if 55 with (fail)
         go_cut [8] (fun v8 wc => ∃ (kq : Nat) (x8_36 : Int), v8 = .int .i64 x8_36 ∧ Aside0 (laws_FnLaidOver.j2 kq t347 t350 t354 x8_36 x9_2 t340 t341 t344 = some r) ∧ Aside0 (kq ≤ k2) ∧ Aside0 (Kd.R Kd.string 9 wc w.heap.size (fun k_ => some k_ ≠ ((.slice Ao10 t341.length co10) : Value).ownBlock) (.slice Ao12 t347.length co12) t347) ∧ Aside0 (Kd.R (Kd.int .i64) 3 wc w.heap.size (fun _ => True) (.slice Ao13 t350.length co13) t350) ∧ Aside0 (Kd.R k38 38 wc w.heap.size (fun _ => True) (.slice (some ad366) t354.length co38) t354) ∧ Aside0 (Kd.R Kd.string 9 wc w.heap.size (fun k_ => some k_ ≠ ((.slice Ao12 t347.length co12) : Value).ownBlock) (.slice Ao10 t341.length co10) t341) ∧ Aside0 (Kd.R k27 27 wc w.heap.size (fun k_ => some k_ ≠ ((.slice Ao12 t347.length co12) : Value).ownBlock ∧ some k_ ≠ ((.slice Ao10 t341.length co10) : Value).ownBlock ∧ k_ ≠ gb353) (.slice Ao11 t344.length co11) t344) ∧ Aside0 (wc.heap[gb353]? = some (.cells #[.string t340, (.slice Ao10 t341.length co10), (.slice Ao11 t344.length co11)] 27 (0, 0))) ∧ Aside0 (Below w.heap.size w wc))
         case first =>
          have H := HC37.out
          clear HC37
          by_cases c39 : ((rd_T38 t354 x9_2).f2) > x8_2
          ·rw [if_pos c39] at H
           have c39b0 : decide (x8_2 < ((rd_T38 t354 x9_2).f2)) = true := decide_eq_true c39
           clear c39
           (first | rw [c39b0] | (simp only [i64_w, i32_w]; rw [c39b0]) | skip)
           have H' := Aside0.mk H
           clear H
           have p367 : 0 ≤ (x9_2 : Int) := of_decide_eq_true z_5
           have q367 : x9_2 < (t354.length : Int) := of_decide_eq_true z_5
           obtain ⟨ad367, e367, hx367_0, hx367_1, hx367_2⟩ := at_T38 (Kd.R_reads' HO_6.out).2.2 x9_2 p367 q367
           obtain rfl : ad366 = ad367 := (by injection e367)
           replace p367 := eq_true p367
           replace q367 := eq_true q367
           go_wp2
           go_meet
           case rel => exact ⟨_, ((rd_T38 t354 x9_2).f2), z_3, H', ⟨by have := HJ5.out; have := HK2.out; first | omega | exact Nat.le_refl _⟩, ⟨z_17 HO_4.out⟩, ⟨z_17 HO_5.out⟩, ⟨z_17 HO_6.out⟩, ⟨z_17 HO_354001.out⟩, ⟨z_17 HO_354002.out⟩, ⟨z_7 BK353.out⟩, ⟨z_8 HB.out GE353.out⟩⟩
          ·rw [if_neg c39] at H
           have c39b0 : decide (x8_2 < ((rd_T38 t354 x9_2).f2)) = false := decide_eq_false c39
           clear c39
           (first | rw [c39b0] | (simp only [i64_w, i32_w]; rw [c39b0]) | skip)
           have H' := Aside0.mk H
           clear H
           go_wp2
           go_meet
           case rel => exact ⟨_, (x8_2), z_3, H', ⟨by have := HJ5.out; have := HK2.out; first | omega | exact Nat.le_refl _⟩, ⟨z_17 HO_4.out⟩, ⟨z_17 HO_5.out⟩, ⟨z_17 HO_6.out⟩, ⟨z_17 HO_354001.out⟩, ⟨z_17 HO_354002.out⟩, ⟨z_7 BK353.out⟩, ⟨z_8 HB.out GE353.out⟩⟩
         case rest =>
          clear HC37
          try clear c1
          try clear c2
          try clear p2
          try clear c3
          try clear p3
          try clear q3
          try clear hx3
          try clear c8
          try clear c9
          try clear c10
          try clear c15
          try clear c19
          try clear c20
          try clear c34
          try clear c35
          try clear c35b0
          try clear c36
          try clear c36b0
          try clear p36
          try clear q36
          try clear hx36
          try clear c39
          try clear c39b0
          try clear hx366_0
          try clear hx366_1
          try clear hx366_2
          try clear hx367_0
          try clear hx367_1
          try clear hx367_2
          try clear p2
          try clear p366
          try clear p367
          try clear q366
          try clear q367
          obtain ⟨kq, x8_36, rfl, HA, HJ36, HO_4, HO_5, HO_6, HO_354001, HO_354002, BK353, HB⟩ := hcut
          cases kq with
          | zero => exact absurd HA.out (by simp [laws_FnLaidOver.j2])
          | succ kj36 =>
           have H := HA.out
           clear HA
           simp only [laws_FnLaidOver.j2] at H
           have HC40 := Aside0.mk H
           clear H
           go_upto_region 13 with (fail)
           go_cut [80] (fun v80 wc => ∃ (kq : Nat) (x80_39 : Bool), v80 = .bool x80_39 ∧ Aside0 (laws_FnLaidOver.j3 kq t347 t350 t354 x8_36 x9_2 x80_39 t340 t341 t344 = some r) ∧ Aside0 (kq ≤ kj36) ∧ Aside0 (Kd.R Kd.string 9 wc w.heap.size (fun k_ => some k_ ≠ ((.slice Ao10 t341.length co10) : Value).ownBlock) (.slice Ao12 t347.length co12) t347) ∧ Aside0 (Kd.R (Kd.int .i64) 3 wc w.heap.size (fun _ => True) (.slice Ao13 t350.length co13) t350) ∧ Aside0 (Kd.R k38 38 wc w.heap.size (fun _ => True) (.slice (some ad366) t354.length co38) t354) ∧ Aside0 (Kd.R Kd.string 9 wc w.heap.size (fun k_ => some k_ ≠ ((.slice Ao12 t347.length co12) : Value).ownBlock) (.slice Ao10 t341.length co10) t341) ∧ Aside0 (Kd.R k27 27 wc w.heap.size (fun k_ => some k_ ≠ ((.slice Ao12 t347.length co12) : Value).ownBlock ∧ some k_ ≠ ((.slice Ao10 t341.length co10) : Value).ownBlock ∧ k_ ≠ gb353) (.slice Ao11 t344.length co11) t344) ∧ Aside0 (wc.heap[gb353]? = some (.cells #[.string t340, (.slice Ao10 t341.length co10), (.slice Ao11 t344.length co11)] 27 (0, 0))) ∧ Aside0 (Below w.heap.size w wc))
           case first =>
            have H := HC40.out
            clear HC40
            by_cases c41 : 0 ≤ x9_2
            ·rw [if_pos c41] at H
             have c41b0 : decide (0 ≤ x9_2) = true := decide_eq_true c41
             clear c41
             (first | rw [c41b0] | (simp only [i64_w, i32_w]; rw [c41b0]) | skip)
             by_cases c42 : x9_2 < (t354.length : Int)
             ·rw [if_pos c42] at H
              have c42b0 : decide (x9_2 < (t354.length : Int)) = true := decide_eq_true c42
              clear c42
              by_cases c43 : (Int.tmod ((rd_T38 t354 x9_2).f1) 2) = 0
              ·rw [if_pos c43] at H
               have c43b0 : ((Int.tmod ((rd_T38 t354 x9_2).f1) 2) == 0) = true := beq_iff_eq.mpr c43
               have c43b1 : ((Int.tmod ((rd_T38 t354 x9_2).f1) 2) != 0) = false := bne_eq_false_iff_eq.mpr c43
               clear c43
               have H' := Aside0.mk H
               clear H
               try go_wp2
               have n0_ := Aside0.mk (Kd.R_drew HO_4.out)
               have n1_ := Aside0.mk (Kd.R_drew HO_5.out)
               have n2_ := Aside0.mk (Kd.R_drew HO_6.out)
               have n3_ := Aside0.mk (Kd.R_drew HO_354001.out)
               have n4_ := Aside0.mk (Kd.R_drew HO_354002.out)
               have n5_ := Aside0.mk (blk_drew BK353.out)
               have n6_ := Aside0.mk (below_drew1 HB.out)
               clear HO_4
               clear HO_5
               clear HO_6
               clear HO_354001
               clear HO_354002
               clear BK353
               clear HB
               have HO_4 := n0_
               have HO_5 := n1_
               have HO_6 := n2_
               have HO_354001 := n3_
               have HO_354002 := n4_
               have BK353 := n5_
               have HB := n6_
               clear n0_ n1_ n2_ n3_ n4_ n5_ n6_
               have p368 : 0 ≤ (x9_2 : Int) := of_decide_eq_true z_5
               have q368 : x9_2 < (t354.length : Int) := of_decide_eq_true z_5
               obtain ⟨ad368, e368, hx368_0, hx368_1, hx368_2⟩ := at_T38 (Kd.R_reads' HO_6.out).2.2 x9_2 p368 q368
               obtain rfl : ad366 = ad368 := (by injection e368)
               replace p368 := eq_true p368
               replace q368 := eq_true q368
               have p369 : 0 ≤ (x9_2 : Int) := of_decide_eq_true z_5
               have q369 : x9_2 < (t354.length : Int) := of_decide_eq_true z_5
               obtain ⟨ad369, e369, hx369_0, hx369_1, hx369_2⟩ := at_T38 (Kd.R_reads' HO_6.out).2.2 x9_2 p369 q369
               obtain rfl : ad366 = ad369 := (by injection e369)
               replace p369 := eq_true p369
               replace q369 := eq_true q369
               have p370 : 0 ≤ (x9_2 : Int) := of_decide_eq_true z_5
               have q370 : x9_2 < (t354.length : Int) := of_decide_eq_true z_5
               obtain ⟨ad370, e370, hx370_0, hx370_1, hx370_2⟩ := at_T38 (Kd.R_reads' HO_6.out).2.2 x9_2 p370 q370
               obtain rfl : ad366 = ad370 := (by injection e370)
               replace p370 := eq_true p370
               replace q370 := eq_true q370
               refine st_ 20 (fun w' => w'.cell? (ad366.add ((x9_2).toNat * 3)) = some (.string ((rd_T38 t354 x9_2).f0)) ∧ w'.cell? ⟨(ad366.add ((x9_2).toNat * 3)).block, (ad366.add ((x9_2).toNat * 3)).off + 1, none⟩ = some (.int .i64 ((rd_T38 t354 x9_2).f1)) ∧ w'.cell? ⟨(ad366.add ((x9_2).toNat * 3)).block, (ad366.add ((x9_2).toNat * 3)).off + 2, none⟩ = some (.int .i64 ((rd_T38 t354 x9_2).f2)) ∧ w'.cell? (ad366.add ((x9_2).toNat * 3)) = some (.string ((rd_T38 t354 x9_2).f0)) ∧ w'.cell? ⟨(ad366.add ((x9_2).toNat * 3)).block, (ad366.add ((x9_2).toNat * 3)).off + 1, none⟩ = some (.int .i64 ((rd_T38 t354 x9_2).f1)) ∧ w'.cell? ⟨(ad366.add ((x9_2).toNat * 3)).block, (ad366.add ((x9_2).toNat * 3)).off + 2, none⟩ = some (.int .i64 ((rd_T38 t354 x9_2).f2)) ∧ w'.cell? (ad366.add ((x9_2).toNat * 3)) = some (.string ((rd_T38 t354 x9_2).f0)) ∧ w'.cell? ⟨(ad366.add ((x9_2).toNat * 3)).block, (ad366.add ((x9_2).toNat * 3)).off + 1, none⟩ = some (.int .i64 ((rd_T38 t354 x9_2).f1)) ∧ w'.cell? ⟨(ad366.add ((x9_2).toNat * 3)).block, (ad366.add ((x9_2).toNat * 3)).off + 2, none⟩ = some (.int .i64 ((rd_T38 t354 x9_2).f2))) [] ⟨hx368_0, hx368_1, hx368_2, hx369_0, hx369_1, hx369_2, hx370_0, hx370_1, hx370_2⟩ (fun hHeld => ?_); refine with_tabW laws_FnLaidOver.tab13 laws_FnLaidOver.bits13 (fun HT_ HW_ => ?_)
               generalize wc.drew = w44 at HO_4 HO_5 HO_6 HO_354001 HO_354002 BK353 HB hx368_0 hx368_1 hx368_2 hx369_0 hx369_1 hx369_2 hx370_0 hx370_1 hx370_2 hHeld ⊢
               refine go_ ?_ [0, 1, 2, 3, 1004, 5, 6, 7, 8, 9, 10, 11, 13, 14, 15, 16, 1012, 1017, 18, 19] ?_
               refine done_ (done_of HT_.out (by kernel_rfl)) ?_
               try go_wp2
               go_meet
               case rel => exact ⟨_, (decide (((rd_T38 t354 x9_2).f1) > ((rd_T38 t354 x9_2).f2))), z_3, H', ⟨by have := HJ5.out; have := HK2.out; have := HJ36.out; first | omega | exact Nat.le_refl _⟩, ⟨z_17 HO_4.out⟩, ⟨z_17 HO_5.out⟩, ⟨z_17 HO_6.out⟩, ⟨z_17 HO_354001.out⟩, ⟨z_17 HO_354002.out⟩, ⟨z_7 BK353.out⟩, ⟨z_8 HB.out GE353.out⟩⟩
              ·rw [if_neg c43] at H
               have c43b0 : ((Int.tmod ((rd_T38 t354 x9_2).f1) 2) == 0) = false := beq_eq_false_iff_ne.mpr c43
               have c43b1 : ((Int.tmod ((rd_T38 t354 x9_2).f1) 2) != 0) = true := bne_iff_ne.mpr c43
               have H' := Aside0.mk H
               clear H
               try go_wp2
               have n0_ := Aside0.mk (Kd.R_drew HO_4.out)
               have n1_ := Aside0.mk (Kd.R_drew HO_5.out)
               have n2_ := Aside0.mk (Kd.R_drew HO_6.out)
               have n3_ := Aside0.mk (Kd.R_drew HO_354001.out)
               have n4_ := Aside0.mk (Kd.R_drew HO_354002.out)
               have n5_ := Aside0.mk (blk_drew BK353.out)
               have n6_ := Aside0.mk (below_drew1 HB.out)
               clear HO_4
               clear HO_5
               clear HO_6
               clear HO_354001
               clear HO_354002
               clear BK353
               clear HB
               have HO_4 := n0_
               have HO_5 := n1_
               have HO_6 := n2_
               have HO_354001 := n3_
               have HO_354002 := n4_
               have BK353 := n5_
               have HB := n6_
               clear n0_ n1_ n2_ n3_ n4_ n5_ n6_
               have p368 : 0 ≤ (x9_2 : Int) := of_decide_eq_true z_5
               have q368 : x9_2 < (t354.length : Int) := of_decide_eq_true z_5
               obtain ⟨ad368, e368, hx368_0, hx368_1, hx368_2⟩ := at_T38 (Kd.R_reads' HO_6.out).2.2 x9_2 p368 q368
               obtain rfl : ad366 = ad368 := (by injection e368)
               replace p368 := eq_true p368
               replace q368 := eq_true q368
               refine st_ 20 (fun w' => w'.cell? (ad366.add ((x9_2).toNat * 3)) = some (.string ((rd_T38 t354 x9_2).f0)) ∧ w'.cell? ⟨(ad366.add ((x9_2).toNat * 3)).block, (ad366.add ((x9_2).toNat * 3)).off + 1, none⟩ = some (.int .i64 ((rd_T38 t354 x9_2).f1)) ∧ w'.cell? ⟨(ad366.add ((x9_2).toNat * 3)).block, (ad366.add ((x9_2).toNat * 3)).off + 2, none⟩ = some (.int .i64 ((rd_T38 t354 x9_2).f2))) [] ⟨hx368_0, hx368_1, hx368_2⟩ (fun hHeld => ?_); refine with_tabW laws_FnLaidOver.tab13 laws_FnLaidOver.bits13 (fun HT_ HW_ => ?_)
               generalize wc.drew = w45 at HO_4 HO_5 HO_6 HO_354001 HO_354002 BK353 HB hx368_0 hx368_1 hx368_2 hHeld ⊢
               refine go_ ?_ [0, 1, 2, 3, 1004, 5, 6, 7, 2008, 2009, 2010, 2011, 2012, 2013, 2014, 2015, 2016, 2017, 2018, 19] ?_
               refine done_ (done_of HT_.out (by kernel_rfl)) ?_
               try go_wp2
               go_meet
               case rel => exact ⟨_, (true), z_3, H', ⟨by have := HJ5.out; have := HK2.out; have := HJ36.out; first | omega | exact Nat.le_refl _⟩, ⟨z_17 HO_4.out⟩, ⟨z_17 HO_5.out⟩, ⟨z_17 HO_6.out⟩, ⟨z_17 HO_354001.out⟩, ⟨z_17 HO_354002.out⟩, ⟨z_7 BK353.out⟩, ⟨z_8 HB.out GE353.out⟩⟩
             ·rw [if_neg c42] at H
              exact absurd H (by simp)
            ·rw [if_neg c41] at H
             exact absurd H (by simp)
           case rest =>
            clear HC40
            try clear c1
            try clear c2
            try clear p2
            try clear c3
            try clear p3
            try clear q3
            try clear hx3
            try clear c4
            try clear c8
            try clear c9
            try clear c10
            try clear c15
            try clear c19
            try clear c20
            try clear c34
            try clear c35
            try clear c35b0
            try clear c36
            try clear c36b0
            try clear p36
            try clear q36
            try clear hx36
            try clear p37
            try clear q37
            try clear hx37
            try clear c39
            try clear c39b0
            try clear c41
            try clear c41b0
            try clear c42
            try clear c42b0
            try clear c43
            try clear c43b0
            try clear c43b1
            try clear hx366_0
            try clear hx366_1
            try clear hx366_2
            try clear hx367_0
            try clear hx367_1
            try clear hx367_2
            try clear hx368_0
            try clear hx368_1
            try clear hx368_2
            try clear hx369_0
            try clear hx369_1
            try clear hx369_2
            try clear hx370_0
            try clear hx370_1
            try clear hx370_2
            try clear p2
            try clear p3
            try clear p36
            try clear p366
            try clear p367
            try clear p368
            try clear p369
            try clear p370
            try clear q3
            try clear q36
            try clear q366
            try clear q367
            try clear q368
            try clear q369
            try clear q370
            obtain ⟨kq, x80_39, rfl, HA, HJ39, HO_4, HO_5, HO_6, HO_354001, HO_354002, BK353, HB⟩ := hcut
            cases kq with
            | zero => exact absurd HA.out (by simp [laws_FnLaidOver.j3])
            | succ kj39 =>
             have H := HA.out
             clear HA
             simp only [laws_FnLaidOver.j3] at H
             by_cases c46 : x80_39 = true
             ·subst c46
              have H1 : (some false) = some r := by rw [if_pos rfl] at H; exact H
              clear H
              have H := H1
              clear H1
              obtain rfl := Option.some.inj H
              go_wp2
              go_ret
              exact ⟨z_9, z_8 HB.out GE353.out⟩
             ·replace c46 := Bool.eq_false_iff.mpr c46
              subst c46
              have H1 : (laws_FnLaidOver.l1 kj39 t347 t350 t354 x8_36 x9_2 0 t340 t341 t344) = some r := by rw [if_neg (show ¬ (false = true) by decide)] at H; exact H
              clear H
              have H := H1
              clear H1
              have H' := Aside0.mk H
              clear H
              go_wp2
              go_loopg [10] kj39 (fun kq v10 w' => ∃ (x10_5 : Int), v10 = .int .i64 x10_5 ∧ Aside0 (laws_FnLaidOver.l1 kq t347 t350 t354 x8_36 x9_2 x10_5 t340 t341 t344 = some r) ∧ Aside0 (kq ≤ kj39) ∧ Aside0 (Kd.R Kd.string 9 w' w.heap.size (fun k_ => some k_ ≠ ((.slice Ao10 t341.length co10) : Value).ownBlock) (.slice Ao12 t347.length co12) t347) ∧ Aside0 (Kd.R (Kd.int .i64) 3 w' w.heap.size (fun _ => True) (.slice Ao13 t350.length co13) t350) ∧ Aside0 (Kd.R k38 38 w' w.heap.size (fun _ => True) (.slice (some ad366) t354.length co38) t354) ∧ Aside0 (Kd.R Kd.string 9 w' w.heap.size (fun k_ => some k_ ≠ ((.slice Ao12 t347.length co12) : Value).ownBlock) (.slice Ao10 t341.length co10) t341) ∧ Aside0 (Kd.R k27 27 w' w.heap.size (fun k_ => some k_ ≠ ((.slice Ao12 t347.length co12) : Value).ownBlock ∧ some k_ ≠ ((.slice Ao10 t341.length co10) : Value).ownBlock ∧ k_ ≠ gb353) (.slice Ao11 t344.length co11) t344) ∧ Aside0 (w'.heap[gb353]? = some (.cells #[.string t340, (.slice Ao10 t341.length co10), (.slice Ao11 t344.length co11)] 27 (0, 0))) ∧ Aside0 (Below w.heap.size w w'))
              case atStart => exact ⟨(0), z_3, H', ⟨Nat.le_refl _⟩, ⟨z_17 HO_4.out⟩, ⟨z_17 HO_5.out⟩, ⟨z_17 HO_6.out⟩, ⟨z_17 HO_354001.out⟩, ⟨z_17 HO_354002.out⟩, ⟨z_7 BK353.out⟩, ⟨z_8 HB.out GE353.out⟩⟩
              case round =>
               clear H'
               try clear c1
               try clear c2
               try clear p2
               try clear c3
               try clear p3
               try clear q3
               try clear hx3
               try clear c4
               try clear c8
               try clear c9
               try clear c10
               try clear c15
               try clear c19
               try clear c20
               try clear c34
               try clear c35
               try clear c35b0
               try clear c36
               try clear c36b0
               try clear p36
               try clear q36
               try clear hx36
               try clear p37
               try clear q37
               try clear hx37
               try clear c39
               try clear c39b0
               try clear c41
               try clear c41b0
               try clear c42
               try clear c42b0
               try clear c43
               try clear c43b0
               try clear c43b1
               try clear c46
               try clear hx366_0
               try clear hx366_1
               try clear hx366_2
               try clear hx367_0
               try clear hx367_1
               try clear hx367_2
               try clear hx368_0
               try clear hx368_1
               try clear hx368_2
               try clear hx369_0
               try clear hx369_1
               try clear hx369_2
               try clear hx370_0
               try clear hx370_1
               try clear hx370_2
               try clear p2
               try clear p3
               try clear p36
               try clear p366
               try clear p367
               try clear p368
               try clear p369
               try clear p37
               try clear p370
               try clear q3
               try clear q36
               try clear q366
               try clear q367
               try clear q368
               try clear q369
               try clear q37
               try clear q370
               obtain ⟨x10_5, rfl, HA, HK5, HO_4, HO_5, HO_6, HO_354001, HO_354002, BK353, HB⟩ := hrel
               cases gk with
               | zero => exact absurd HA.out (by simp [laws_FnLaidOver.l1])
               | succ k5 =>
                have H := HA.out
                clear HA
                simp only [laws_FnLaidOver.l1] at H
                by_cases c47 : x10_5 < x9_2
                ·rw [if_pos c47] at H
                 have c47b0 : decide (x10_5 < x9_2) = true := decide_eq_true c47
                 clear c47
                 by_cases c48 : 0 ≤ x9_2
                 ·rw [if_pos c48] at H
                  have c48b0 : decide (0 ≤ x9_2) = true := decide_eq_true c48
                  clear c48
                  by_cases c49 : x9_2 < (t354.length : Int)
                  ·rw [if_pos c49] at H
                   have c49b0 : decide (x9_2 < (t354.length : Int)) = true := decide_eq_true c49
                   clear c49
                   by_cases c50 : 0 ≤ x10_5
                   ·rw [if_pos c50] at H
                    have c50b0 : decide (0 ≤ x10_5) = true := decide_eq_true c50
                    clear c50
                    by_cases c51 : x10_5 < (t354.length : Int)
                    ·rw [if_pos c51] at H
                     have c51b0 : decide (x10_5 < (t354.length : Int)) = true := decide_eq_true c51
                     clear c51
                     replace H := Option.bind_eq_some_iff.mp H
                     obtain ⟨t373, A520, H⟩ := H
                     replace H : (if t373 = true then (if ((rd_T38 t354 x9_2).f1) < ((rd_T38 t354 x10_5).f2) then (if ((rd_T38 t354 x10_5).f1) < ((rd_T38 t354 x9_2).f2) then (some false) else (laws_FnLaidOver.l1 k5 t347 t350 t354 x8_36 x9_2 (wrap64 (x10_5 + 1)) t340 t341 t344)) else (laws_FnLaidOver.l1 k5 t347 t350 t354 x8_36 x9_2 (wrap64 (x10_5 + 1)) t340 t341 t344)) else (laws_FnLaidOver.l1 k5 t347 t350 t354 x8_36 x9_2 (wrap64 (x10_5 + 1)) t340 t341 t344)) = some r := H
                     have A52 := Aside0.mk A520
                     clear A520
                     by_cases c53 : t373 = true
                     ·subst c53
                      have H1 : (if ((rd_T38 t354 x9_2).f1) < ((rd_T38 t354 x10_5).f2) then (if ((rd_T38 t354 x10_5).f1) < ((rd_T38 t354 x9_2).f2) then (some false) else (laws_FnLaidOver.l1 k5 t347 t350 t354 x8_36 x9_2 (wrap64 (x10_5 + 1)) t340 t341 t344)) else (laws_FnLaidOver.l1 k5 t347 t350 t354 x8_36 x9_2 (wrap64 (x10_5 + 1)) t340 t341 t344)) = some r := by rw [if_pos rfl] at H; exact H
                      clear H
                      have H := H1
                      clear H1
                      by_cases c54 : ((rd_T38 t354 x9_2).f1) < ((rd_T38 t354 x10_5).f2)
                      ·rw [if_pos c54] at H
                       have c54b0 : decide (((rd_T38 t354 x9_2).f1) < ((rd_T38 t354 x10_5).f2)) = true := decide_eq_true c54
                       clear c54
                       by_cases c55 : ((rd_T38 t354 x10_5).f1) < ((rd_T38 t354 x9_2).f2)
                       ·rw [if_pos c55] at H
                        have c55b0 : decide (((rd_T38 t354 x10_5).f1) < ((rd_T38 t354 x9_2).f2)) = true := decide_eq_true c55
                        clear c55
                        obtain rfl := Option.some.inj H
                        try go_wp2
                        have n0_ := Aside0.mk (Kd.R_drew HO_4.out)
                        have n1_ := Aside0.mk (Kd.R_drew HO_5.out)
                        have n2_ := Aside0.mk (Kd.R_drew HO_6.out)
                        have n3_ := Aside0.mk (Kd.R_drew HO_354001.out)
                        have n4_ := Aside0.mk (Kd.R_drew HO_354002.out)
                        have n5_ := Aside0.mk (blk_drew BK353.out)
                        have n6_ := Aside0.mk (below_drew1 HB.out)
                        clear HO_4
                        clear HO_5
                        clear HO_6
                        clear HO_354001
                        clear HO_354002
                        clear BK353
                        clear HB
                        have HO_4 := n0_
                        have HO_5 := n1_
                        have HO_6 := n2_
                        have HO_354001 := n3_
                        have HO_354002 := n4_
                        have BK353 := n5_
                        have HB := n6_
                        clear n0_ n1_ n2_ n3_ n4_ n5_ n6_
                        have p371 : 0 ≤ (x9_2 : Int) := of_decide_eq_true z_5
                        have q371 : x9_2 < (t354.length : Int) := of_decide_eq_true z_5
                        obtain ⟨ad371, e371, hx371_0, hx371_1, hx371_2⟩ := at_T38 (Kd.R_reads' HO_6.out).2.2 x9_2 p371 q371
                        obtain rfl : ad366 = ad371 := (by injection e371)
                        replace p371 := eq_true p371
                        replace q371 := eq_true q371
                        have p372 : 0 ≤ (x10_5 : Int) := of_decide_eq_true z_5
                        have q372 : x10_5 < (t354.length : Int) := of_decide_eq_true z_5
                        obtain ⟨ad372, e372, hx372_0, hx372_1, hx372_2⟩ := at_T38 (Kd.R_reads' HO_6.out).2.2 x10_5 p372 q372
                        obtain rfl : ad366 = ad372 := (by injection e372)
                        replace p372 := eq_true p372
                        replace q372 := eq_true q372
                        have p374 : 0 ≤ (x9_2 : Int) := of_decide_eq_true z_5
                        have q374 : x9_2 < (t354.length : Int) := of_decide_eq_true z_5
                        obtain ⟨ad374, e374, hx374_0, hx374_1, hx374_2⟩ := at_T38 (Kd.R_reads' HO_6.out).2.2 x9_2 p374 q374
                        obtain rfl : ad366 = ad374 := (by injection e374)
                        replace p374 := eq_true p374
                        replace q374 := eq_true q374
                        have p375 : 0 ≤ (x10_5 : Int) := of_decide_eq_true z_5
                        have q375 : x10_5 < (t354.length : Int) := of_decide_eq_true z_5
                        obtain ⟨ad375, e375, hx375_0, hx375_1, hx375_2⟩ := at_T38 (Kd.R_reads' HO_6.out).2.2 x10_5 p375 q375
                        obtain rfl : ad366 = ad375 := (by injection e375)
                        replace p375 := eq_true p375
                        replace q375 := eq_true q375
                        have p376 : 0 ≤ (x10_5 : Int) := of_decide_eq_true z_5
                        have q376 : x10_5 < (t354.length : Int) := of_decide_eq_true z_5
                        obtain ⟨ad376, e376, hx376_0, hx376_1, hx376_2⟩ := at_T38 (Kd.R_reads' HO_6.out).2.2 x10_5 p376 q376
                        obtain rfl : ad366 = ad376 := (by injection e376)
                        replace p376 := eq_true p376
                        replace q376 := eq_true q376
                        have p377 : 0 ≤ (x9_2 : Int) := of_decide_eq_true z_5
                        have q377 : x9_2 < (t354.length : Int) := of_decide_eq_true z_5
                        obtain ⟨ad377, e377, hx377_0, hx377_1, hx377_2⟩ := at_T38 (Kd.R_reads' HO_6.out).2.2 x9_2 p377 q377
                        obtain rfl : ad366 = ad377 := (by injection e377)
                        replace p377 := eq_true p377
                        replace q377 := eq_true q377
                        refine st_ 38 (fun w' => w'.cell? ⟨gb353, 0, none⟩ = some (.string t340) ∧ w'.cell? ⟨gb353, 1, none⟩ = some (.slice Ao10 t341.length co10) ∧ w'.cell? ⟨gb353, 2, none⟩ = some (.slice Ao11 t344.length co11) ∧ w'.cell? (ad366.add ((x9_2).toNat * 3)) = some (.string ((rd_T38 t354 x9_2).f0)) ∧ w'.cell? ⟨(ad366.add ((x9_2).toNat * 3)).block, (ad366.add ((x9_2).toNat * 3)).off + 1, none⟩ = some (.int .i64 ((rd_T38 t354 x9_2).f1)) ∧ w'.cell? ⟨(ad366.add ((x9_2).toNat * 3)).block, (ad366.add ((x9_2).toNat * 3)).off + 2, none⟩ = some (.int .i64 ((rd_T38 t354 x9_2).f2)) ∧ w'.cell? (ad366.add ((x10_5).toNat * 3)) = some (.string ((rd_T38 t354 x10_5).f0)) ∧ w'.cell? ⟨(ad366.add ((x10_5).toNat * 3)).block, (ad366.add ((x10_5).toNat * 3)).off + 1, none⟩ = some (.int .i64 ((rd_T38 t354 x10_5).f1)) ∧ w'.cell? ⟨(ad366.add ((x10_5).toNat * 3)).block, (ad366.add ((x10_5).toNat * 3)).off + 2, none⟩ = some (.int .i64 ((rd_T38 t354 x10_5).f2)) ∧ w'.cell? (ad366.add ((x9_2).toNat * 3)) = some (.string ((rd_T38 t354 x9_2).f0)) ∧ w'.cell? ⟨(ad366.add ((x9_2).toNat * 3)).block, (ad366.add ((x9_2).toNat * 3)).off + 1, none⟩ = some (.int .i64 ((rd_T38 t354 x9_2).f1)) ∧ w'.cell? ⟨(ad366.add ((x9_2).toNat * 3)).block, (ad366.add ((x9_2).toNat * 3)).off + 2, none⟩ = some (.int .i64 ((rd_T38 t354 x9_2).f2)) ∧ w'.cell? (ad366.add ((x10_5).toNat * 3)) = some (.string ((rd_T38 t354 x10_5).f0)) ∧ w'.cell? ⟨(ad366.add ((x10_5).toNat * 3)).block, (ad366.add ((x10_5).toNat * 3)).off + 1, none⟩ = some (.int .i64 ((rd_T38 t354 x10_5).f1)) ∧ w'.cell? ⟨(ad366.add ((x10_5).toNat * 3)).block, (ad366.add ((x10_5).toNat * 3)).off + 2, none⟩ = some (.int .i64 ((rd_T38 t354 x10_5).f2)) ∧ w'.cell? (ad366.add ((x10_5).toNat * 3)) = some (.string ((rd_T38 t354 x10_5).f0)) ∧ w'.cell? ⟨(ad366.add ((x10_5).toNat * 3)).block, (ad366.add ((x10_5).toNat * 3)).off + 1, none⟩ = some (.int .i64 ((rd_T38 t354 x10_5).f1)) ∧ w'.cell? ⟨(ad366.add ((x10_5).toNat * 3)).block, (ad366.add ((x10_5).toNat * 3)).off + 2, none⟩ = some (.int .i64 ((rd_T38 t354 x10_5).f2)) ∧ w'.cell? (ad366.add ((x9_2).toNat * 3)) = some (.string ((rd_T38 t354 x9_2).f0)) ∧ w'.cell? ⟨(ad366.add ((x9_2).toNat * 3)).block, (ad366.add ((x9_2).toNat * 3)).off + 1, none⟩ = some (.int .i64 ((rd_T38 t354 x9_2).f1)) ∧ w'.cell? ⟨(ad366.add ((x9_2).toNat * 3)).block, (ad366.add ((x9_2).toNat * 3)).off + 2, none⟩ = some (.int .i64 ((rd_T38 t354 x9_2).f2))) [] ⟨(blk_cell BK353.out 0).trans rfl, (blk_cell BK353.out 1).trans rfl, (blk_cell BK353.out 2).trans rfl, hx371_0, hx371_1, hx371_2, hx372_0, hx372_1, hx372_2, hx374_0, hx374_1, hx374_2, hx375_0, hx375_1, hx375_2, hx376_0, hx376_1, hx376_2, hx377_0, hx377_1, hx377_2⟩ (fun hHeld => ?_); refine with_tabW laws_FnLaidOver.tab18 laws_FnLaidOver.bits18 (fun HT_ HW_ => ?_)
                        generalize wr.drew = w56 at HO_4 HO_5 HO_6 HO_354001 HO_354002 BK353 HB hx371_0 hx371_1 hx371_2 hx372_0 hx372_1 hx372_2 hx374_0 hx374_1 hx374_2 hx375_0 hx375_1 hx375_2 hx376_0 hx376_1 hx376_2 hx377_0 hx377_1 hx377_2 hHeld ⊢
                        refine go_ ?_ [1, 2, 3, 4, 6, 7, 8, 9, 1000, 1005, 1010] ?_
                        refine on_ 11 97 (fun K hK => ?_)
                        refine gs_ Try.func11 #[.agg #[.string t340, .slice Ao10 t341.length co10, .slice Ao11 t344.length co11], .string ((rd_T38 t354 x9_2).f0), .string ((rd_T38 t354 x10_5).f0)] ?_
                        with_reducible refine (impl_Above.calls k5 t340 _ _ t341 _ _ t344 ((rd_T38 t354 x9_2).f0) ((rd_T38 t354 x10_5).f0) true _ ?side1 ?side2 ?side3 ?side4 A52.out).mono ?_
                        (case side1 => exact z_47 HO_354001.out)
                        (case side2 => exact (Kd.R_reads' HO_354001.out).2.1)
                        (case side3 => exact z_47 HO_354002.out)
                        (case side4 => exact (Kd.R_reads' HO_354002.out).2.1)
                        rintro e w57 ⟨rfl, hb⟩
                        have HS3_ := (hb.cell (World.block_lt_of_cell? _ _ (hHeld.2.2.2.1))).trans (hHeld.2.2.2.1)
                        have HS4_ := (hb.cell (World.block_lt_of_cell? _ _ (hHeld.2.2.2.2.1))).trans (hHeld.2.2.2.2.1)
                        have HS5_ := (hb.cell (World.block_lt_of_cell? _ _ (hHeld.2.2.2.2.2.1))).trans (hHeld.2.2.2.2.2.1)
                        have HS6_ := (hb.cell (World.block_lt_of_cell? _ _ (hHeld.2.2.2.2.2.2.1))).trans (hHeld.2.2.2.2.2.2.1)
                        have HS7_ := (hb.cell (World.block_lt_of_cell? _ _ (hHeld.2.2.2.2.2.2.2.1))).trans (hHeld.2.2.2.2.2.2.2.1)
                        have HS8_ := (hb.cell (World.block_lt_of_cell? _ _ (hHeld.2.2.2.2.2.2.2.2.1))).trans (hHeld.2.2.2.2.2.2.2.2.1)
                        have HS9_ := (hb.cell (World.block_lt_of_cell? _ _ (hHeld.2.2.2.2.2.2.2.2.2.1))).trans (hHeld.2.2.2.2.2.2.2.2.2.1)
                        have HS10_ := (hb.cell (World.block_lt_of_cell? _ _ (hHeld.2.2.2.2.2.2.2.2.2.2.1))).trans (hHeld.2.2.2.2.2.2.2.2.2.2.1)
                        have HS11_ := (hb.cell (World.block_lt_of_cell? _ _ (hHeld.2.2.2.2.2.2.2.2.2.2.2.1))).trans (hHeld.2.2.2.2.2.2.2.2.2.2.2.1)
                        have HS12_ := (hb.cell (World.block_lt_of_cell? _ _ (hHeld.2.2.2.2.2.2.2.2.2.2.2.2.1))).trans (hHeld.2.2.2.2.2.2.2.2.2.2.2.2.1)
                        have HS13_ := (hb.cell (World.block_lt_of_cell? _ _ (hHeld.2.2.2.2.2.2.2.2.2.2.2.2.2.1))).trans (hHeld.2.2.2.2.2.2.2.2.2.2.2.2.2.1)
                        have HS14_ := (hb.cell (World.block_lt_of_cell? _ _ (hHeld.2.2.2.2.2.2.2.2.2.2.2.2.2.2.1))).trans (hHeld.2.2.2.2.2.2.2.2.2.2.2.2.2.2.1)
                        have HS15_ := (hb.cell (World.block_lt_of_cell? _ _ (hHeld.2.2.2.2.2.2.2.2.2.2.2.2.2.2.2.1))).trans (hHeld.2.2.2.2.2.2.2.2.2.2.2.2.2.2.2.1)
                        have HS16_ := (hb.cell (World.block_lt_of_cell? _ _ (hHeld.2.2.2.2.2.2.2.2.2.2.2.2.2.2.2.2.1))).trans (hHeld.2.2.2.2.2.2.2.2.2.2.2.2.2.2.2.2.1)
                        have HS17_ := (hb.cell (World.block_lt_of_cell? _ _ (hHeld.2.2.2.2.2.2.2.2.2.2.2.2.2.2.2.2.2.1))).trans (hHeld.2.2.2.2.2.2.2.2.2.2.2.2.2.2.2.2.2.1)
                        have HS18_ := (hb.cell (World.block_lt_of_cell? _ _ (hHeld.2.2.2.2.2.2.2.2.2.2.2.2.2.2.2.2.2.2.1))).trans (hHeld.2.2.2.2.2.2.2.2.2.2.2.2.2.2.2.2.2.2.1)
                        have HS19_ := (hb.cell (World.block_lt_of_cell? _ _ (hHeld.2.2.2.2.2.2.2.2.2.2.2.2.2.2.2.2.2.2.2.1))).trans (hHeld.2.2.2.2.2.2.2.2.2.2.2.2.2.2.2.2.2.2.2.1)
                        have HS20_ := (hb.cell (World.block_lt_of_cell? _ _ (hHeld.2.2.2.2.2.2.2.2.2.2.2.2.2.2.2.2.2.2.2.2))).trans (hHeld.2.2.2.2.2.2.2.2.2.2.2.2.2.2.2.2.2.2.2.2)
                        refine ⟨_, rfl, ?_⟩
                        have n0_ := Aside0.mk (Kd.R_below (z_17 HO_4.out) hb)
                        have n1_ := Aside0.mk (Kd.R_below (z_17 HO_5.out) hb)
                        have n2_ := Aside0.mk (Kd.R_below (z_17 HO_6.out) hb)
                        have n3_ := Aside0.mk (Kd.R_below (z_17 HO_354001.out) hb)
                        have n4_ := Aside0.mk (Kd.R_below (z_17 HO_354002.out) hb)
                        have n5_ := Aside0.mk (blk_below (g := gb353) (o := .cells #[.string t340, .slice Ao10 t341.length co10, .slice Ao11 t344.length co11] 27 (0, 0)) (z_7 BK353.out) hb)
                        have n6_ := Aside0.mk (below_step (z_8 HB.out GE353.out) hb)
                        clear HO_4
                        clear HO_5
                        clear HO_6
                        clear HO_354001
                        clear HO_354002
                        clear BK353
                        clear HB
                        have HO_4 := n0_
                        have HO_5 := n1_
                        have HO_6 := n2_
                        have HO_354001 := n3_
                        have HO_354002 := n4_
                        have BK353 := n5_
                        have HB := n6_
                        clear n0_ n1_ n2_ n3_ n4_ n5_ n6_
                        (try clear hb)
                        (try clear hb2)
                        (try clear hk)
                        (try clear hi)
                        refine hK.out _ _ ⟨(blk_cell BK353.out 0).trans rfl, (blk_cell BK353.out 1).trans rfl, (blk_cell BK353.out 2).trans rfl, HS3_, HS4_, HS5_, HS6_, HS7_, HS8_, HS9_, HS10_, HS11_, HS12_, HS13_, HS14_, HS15_, HS16_, HS17_, HS18_, HS19_, HS20_⟩ (fun hHeld => ?_)
                        clear hK K
                        refine nm_ ?_
                        refine go_ ?_ [12, 13, 14, 15, 16, 18, 19, 20, 21, 1017, 1022, 23, 24, 25, 26, 27, 28, 29, 31, 32, 33, 34, 1030, 1035, 36, 37] ?_
                        refine done_ (done_of HT_.out (by kernel_rfl)) ?_
                        try go_wp2
                        go_ret
                        exact ⟨z_9, z_8 HB.out GE353.out⟩
                       ·rw [if_neg c55] at H
                        have c55b0 : decide (((rd_T38 t354 x10_5).f1) < ((rd_T38 t354 x9_2).f2)) = false := decide_eq_false c55
                        clear c55
                        have H' := Aside0.mk H
                        clear H
                        try go_wp2
                        have n0_ := Aside0.mk (Kd.R_drew HO_4.out)
                        have n1_ := Aside0.mk (Kd.R_drew HO_5.out)
                        have n2_ := Aside0.mk (Kd.R_drew HO_6.out)
                        have n3_ := Aside0.mk (Kd.R_drew HO_354001.out)
                        have n4_ := Aside0.mk (Kd.R_drew HO_354002.out)
                        have n5_ := Aside0.mk (blk_drew BK353.out)
                        have n6_ := Aside0.mk (below_drew1 HB.out)
                        clear HO_4
                        clear HO_5
                        clear HO_6
                        clear HO_354001
                        clear HO_354002
                        clear BK353
                        clear HB
                        have HO_4 := n0_
                        have HO_5 := n1_
                        have HO_6 := n2_
                        have HO_354001 := n3_
                        have HO_354002 := n4_
                        have BK353 := n5_
                        have HB := n6_
                        clear n0_ n1_ n2_ n3_ n4_ n5_ n6_
                        have p371 : 0 ≤ (x9_2 : Int) := of_decide_eq_true z_5
                        have q371 : x9_2 < (t354.length : Int) := of_decide_eq_true z_5
                        obtain ⟨ad371, e371, hx371_0, hx371_1, hx371_2⟩ := at_T38 (Kd.R_reads' HO_6.out).2.2 x9_2 p371 q371
                        obtain rfl : ad366 = ad371 := (by injection e371)
                        replace p371 := eq_true p371
                        replace q371 := eq_true q371
                        have p372 : 0 ≤ (x10_5 : Int) := of_decide_eq_true z_5
                        have q372 : x10_5 < (t354.length : Int) := of_decide_eq_true z_5
                        obtain ⟨ad372, e372, hx372_0, hx372_1, hx372_2⟩ := at_T38 (Kd.R_reads' HO_6.out).2.2 x10_5 p372 q372
                        obtain rfl : ad366 = ad372 := (by injection e372)
                        replace p372 := eq_true p372
                        replace q372 := eq_true q372
                        have p374 : 0 ≤ (x9_2 : Int) := of_decide_eq_true z_5
                        have q374 : x9_2 < (t354.length : Int) := of_decide_eq_true z_5
                        obtain ⟨ad374, e374, hx374_0, hx374_1, hx374_2⟩ := at_T38 (Kd.R_reads' HO_6.out).2.2 x9_2 p374 q374
                        obtain rfl : ad366 = ad374 := (by injection e374)
                        replace p374 := eq_true p374
                        replace q374 := eq_true q374
                        have p375 : 0 ≤ (x10_5 : Int) := of_decide_eq_true z_5
                        have q375 : x10_5 < (t354.length : Int) := of_decide_eq_true z_5
                        obtain ⟨ad375, e375, hx375_0, hx375_1, hx375_2⟩ := at_T38 (Kd.R_reads' HO_6.out).2.2 x10_5 p375 q375
                        obtain rfl : ad366 = ad375 := (by injection e375)
                        replace p375 := eq_true p375
                        replace q375 := eq_true q375
                        have p376 : 0 ≤ (x10_5 : Int) := of_decide_eq_true z_5
                        have q376 : x10_5 < (t354.length : Int) := of_decide_eq_true z_5
                        obtain ⟨ad376, e376, hx376_0, hx376_1, hx376_2⟩ := at_T38 (Kd.R_reads' HO_6.out).2.2 x10_5 p376 q376
                        obtain rfl : ad366 = ad376 := (by injection e376)
                        replace p376 := eq_true p376
                        replace q376 := eq_true q376
                        have p377 : 0 ≤ (x9_2 : Int) := of_decide_eq_true z_5
                        have q377 : x9_2 < (t354.length : Int) := of_decide_eq_true z_5
                        obtain ⟨ad377, e377, hx377_0, hx377_1, hx377_2⟩ := at_T38 (Kd.R_reads' HO_6.out).2.2 x9_2 p377 q377
                        obtain rfl : ad366 = ad377 := (by injection e377)
                        replace p377 := eq_true p377
                        replace q377 := eq_true q377
                        refine st_ 38 (fun w' => w'.cell? ⟨gb353, 0, none⟩ = some (.string t340) ∧ w'.cell? ⟨gb353, 1, none⟩ = some (.slice Ao10 t341.length co10) ∧ w'.cell? ⟨gb353, 2, none⟩ = some (.slice Ao11 t344.length co11) ∧ w'.cell? (ad366.add ((x9_2).toNat * 3)) = some (.string ((rd_T38 t354 x9_2).f0)) ∧ w'.cell? ⟨(ad366.add ((x9_2).toNat * 3)).block, (ad366.add ((x9_2).toNat * 3)).off + 1, none⟩ = some (.int .i64 ((rd_T38 t354 x9_2).f1)) ∧ w'.cell? ⟨(ad366.add ((x9_2).toNat * 3)).block, (ad366.add ((x9_2).toNat * 3)).off + 2, none⟩ = some (.int .i64 ((rd_T38 t354 x9_2).f2)) ∧ w'.cell? (ad366.add ((x10_5).toNat * 3)) = some (.string ((rd_T38 t354 x10_5).f0)) ∧ w'.cell? ⟨(ad366.add ((x10_5).toNat * 3)).block, (ad366.add ((x10_5).toNat * 3)).off + 1, none⟩ = some (.int .i64 ((rd_T38 t354 x10_5).f1)) ∧ w'.cell? ⟨(ad366.add ((x10_5).toNat * 3)).block, (ad366.add ((x10_5).toNat * 3)).off + 2, none⟩ = some (.int .i64 ((rd_T38 t354 x10_5).f2)) ∧ w'.cell? (ad366.add ((x9_2).toNat * 3)) = some (.string ((rd_T38 t354 x9_2).f0)) ∧ w'.cell? ⟨(ad366.add ((x9_2).toNat * 3)).block, (ad366.add ((x9_2).toNat * 3)).off + 1, none⟩ = some (.int .i64 ((rd_T38 t354 x9_2).f1)) ∧ w'.cell? ⟨(ad366.add ((x9_2).toNat * 3)).block, (ad366.add ((x9_2).toNat * 3)).off + 2, none⟩ = some (.int .i64 ((rd_T38 t354 x9_2).f2)) ∧ w'.cell? (ad366.add ((x10_5).toNat * 3)) = some (.string ((rd_T38 t354 x10_5).f0)) ∧ w'.cell? ⟨(ad366.add ((x10_5).toNat * 3)).block, (ad366.add ((x10_5).toNat * 3)).off + 1, none⟩ = some (.int .i64 ((rd_T38 t354 x10_5).f1)) ∧ w'.cell? ⟨(ad366.add ((x10_5).toNat * 3)).block, (ad366.add ((x10_5).toNat * 3)).off + 2, none⟩ = some (.int .i64 ((rd_T38 t354 x10_5).f2)) ∧ w'.cell? (ad366.add ((x10_5).toNat * 3)) = some (.string ((rd_T38 t354 x10_5).f0)) ∧ w'.cell? ⟨(ad366.add ((x10_5).toNat * 3)).block, (ad366.add ((x10_5).toNat * 3)).off + 1, none⟩ = some (.int .i64 ((rd_T38 t354 x10_5).f1)) ∧ w'.cell? ⟨(ad366.add ((x10_5).toNat * 3)).block, (ad366.add ((x10_5).toNat * 3)).off + 2, none⟩ = some (.int .i64 ((rd_T38 t354 x10_5).f2)) ∧ w'.cell? (ad366.add ((x9_2).toNat * 3)) = some (.string ((rd_T38 t354 x9_2).f0)) ∧ w'.cell? ⟨(ad366.add ((x9_2).toNat * 3)).block, (ad366.add ((x9_2).toNat * 3)).off + 1, none⟩ = some (.int .i64 ((rd_T38 t354 x9_2).f1)) ∧ w'.cell? ⟨(ad366.add ((x9_2).toNat * 3)).block, (ad366.add ((x9_2).toNat * 3)).off + 2, none⟩ = some (.int .i64 ((rd_T38 t354 x9_2).f2))) [] ⟨(blk_cell BK353.out 0).trans rfl, (blk_cell BK353.out 1).trans rfl, (blk_cell BK353.out 2).trans rfl, hx371_0, hx371_1, hx371_2, hx372_0, hx372_1, hx372_2, hx374_0, hx374_1, hx374_2, hx375_0, hx375_1, hx375_2, hx376_0, hx376_1, hx376_2, hx377_0, hx377_1, hx377_2⟩ (fun hHeld => ?_); refine with_tabW laws_FnLaidOver.tab18 laws_FnLaidOver.bits18 (fun HT_ HW_ => ?_)
                        generalize wr.drew = w58 at HO_4 HO_5 HO_6 HO_354001 HO_354002 BK353 HB hx371_0 hx371_1 hx371_2 hx372_0 hx372_1 hx372_2 hx374_0 hx374_1 hx374_2 hx375_0 hx375_1 hx375_2 hx376_0 hx376_1 hx376_2 hx377_0 hx377_1 hx377_2 hHeld ⊢
                        refine go_ ?_ [1, 2, 3, 4, 6, 7, 8, 9, 1000, 1005, 1010] ?_
                        refine on_ 11 97 (fun K hK => ?_)
                        refine gs_ Try.func11 #[.agg #[.string t340, .slice Ao10 t341.length co10, .slice Ao11 t344.length co11], .string ((rd_T38 t354 x9_2).f0), .string ((rd_T38 t354 x10_5).f0)] ?_
                        with_reducible refine (impl_Above.calls k5 t340 _ _ t341 _ _ t344 ((rd_T38 t354 x9_2).f0) ((rd_T38 t354 x10_5).f0) true _ ?side1 ?side2 ?side3 ?side4 A52.out).mono ?_
                        (case side1 => exact z_47 HO_354001.out)
                        (case side2 => exact (Kd.R_reads' HO_354001.out).2.1)
                        (case side3 => exact z_47 HO_354002.out)
                        (case side4 => exact (Kd.R_reads' HO_354002.out).2.1)
                        rintro e w59 ⟨rfl, hb⟩
                        have HS3_ := (hb.cell (World.block_lt_of_cell? _ _ (hHeld.2.2.2.1))).trans (hHeld.2.2.2.1)
                        have HS4_ := (hb.cell (World.block_lt_of_cell? _ _ (hHeld.2.2.2.2.1))).trans (hHeld.2.2.2.2.1)
                        have HS5_ := (hb.cell (World.block_lt_of_cell? _ _ (hHeld.2.2.2.2.2.1))).trans (hHeld.2.2.2.2.2.1)
                        have HS6_ := (hb.cell (World.block_lt_of_cell? _ _ (hHeld.2.2.2.2.2.2.1))).trans (hHeld.2.2.2.2.2.2.1)
                        have HS7_ := (hb.cell (World.block_lt_of_cell? _ _ (hHeld.2.2.2.2.2.2.2.1))).trans (hHeld.2.2.2.2.2.2.2.1)
                        have HS8_ := (hb.cell (World.block_lt_of_cell? _ _ (hHeld.2.2.2.2.2.2.2.2.1))).trans (hHeld.2.2.2.2.2.2.2.2.1)
                        have HS9_ := (hb.cell (World.block_lt_of_cell? _ _ (hHeld.2.2.2.2.2.2.2.2.2.1))).trans (hHeld.2.2.2.2.2.2.2.2.2.1)
                        have HS10_ := (hb.cell (World.block_lt_of_cell? _ _ (hHeld.2.2.2.2.2.2.2.2.2.2.1))).trans (hHeld.2.2.2.2.2.2.2.2.2.2.1)
                        have HS11_ := (hb.cell (World.block_lt_of_cell? _ _ (hHeld.2.2.2.2.2.2.2.2.2.2.2.1))).trans (hHeld.2.2.2.2.2.2.2.2.2.2.2.1)
                        have HS12_ := (hb.cell (World.block_lt_of_cell? _ _ (hHeld.2.2.2.2.2.2.2.2.2.2.2.2.1))).trans (hHeld.2.2.2.2.2.2.2.2.2.2.2.2.1)
                        have HS13_ := (hb.cell (World.block_lt_of_cell? _ _ (hHeld.2.2.2.2.2.2.2.2.2.2.2.2.2.1))).trans (hHeld.2.2.2.2.2.2.2.2.2.2.2.2.2.1)
                        have HS14_ := (hb.cell (World.block_lt_of_cell? _ _ (hHeld.2.2.2.2.2.2.2.2.2.2.2.2.2.2.1))).trans (hHeld.2.2.2.2.2.2.2.2.2.2.2.2.2.2.1)
                        have HS15_ := (hb.cell (World.block_lt_of_cell? _ _ (hHeld.2.2.2.2.2.2.2.2.2.2.2.2.2.2.2.1))).trans (hHeld.2.2.2.2.2.2.2.2.2.2.2.2.2.2.2.1)
                        have HS16_ := (hb.cell (World.block_lt_of_cell? _ _ (hHeld.2.2.2.2.2.2.2.2.2.2.2.2.2.2.2.2.1))).trans (hHeld.2.2.2.2.2.2.2.2.2.2.2.2.2.2.2.2.1)
                        have HS17_ := (hb.cell (World.block_lt_of_cell? _ _ (hHeld.2.2.2.2.2.2.2.2.2.2.2.2.2.2.2.2.2.1))).trans (hHeld.2.2.2.2.2.2.2.2.2.2.2.2.2.2.2.2.2.1)
                        have HS18_ := (hb.cell (World.block_lt_of_cell? _ _ (hHeld.2.2.2.2.2.2.2.2.2.2.2.2.2.2.2.2.2.2.1))).trans (hHeld.2.2.2.2.2.2.2.2.2.2.2.2.2.2.2.2.2.2.1)
                        have HS19_ := (hb.cell (World.block_lt_of_cell? _ _ (hHeld.2.2.2.2.2.2.2.2.2.2.2.2.2.2.2.2.2.2.2.1))).trans (hHeld.2.2.2.2.2.2.2.2.2.2.2.2.2.2.2.2.2.2.2.1)
                        have HS20_ := (hb.cell (World.block_lt_of_cell? _ _ (hHeld.2.2.2.2.2.2.2.2.2.2.2.2.2.2.2.2.2.2.2.2))).trans (hHeld.2.2.2.2.2.2.2.2.2.2.2.2.2.2.2.2.2.2.2.2)
                        refine ⟨_, rfl, ?_⟩
                        have n0_ := Aside0.mk (Kd.R_below (z_17 HO_4.out) hb)
                        have n1_ := Aside0.mk (Kd.R_below (z_17 HO_5.out) hb)
                        have n2_ := Aside0.mk (Kd.R_below (z_17 HO_6.out) hb)
                        have n3_ := Aside0.mk (Kd.R_below (z_17 HO_354001.out) hb)
                        have n4_ := Aside0.mk (Kd.R_below (z_17 HO_354002.out) hb)
                        have n5_ := Aside0.mk (blk_below (g := gb353) (o := .cells #[.string t340, .slice Ao10 t341.length co10, .slice Ao11 t344.length co11] 27 (0, 0)) (z_7 BK353.out) hb)
                        have n6_ := Aside0.mk (below_step (z_8 HB.out GE353.out) hb)
                        clear HO_4
                        clear HO_5
                        clear HO_6
                        clear HO_354001
                        clear HO_354002
                        clear BK353
                        clear HB
                        have HO_4 := n0_
                        have HO_5 := n1_
                        have HO_6 := n2_
                        have HO_354001 := n3_
                        have HO_354002 := n4_
                        have BK353 := n5_
                        have HB := n6_
                        clear n0_ n1_ n2_ n3_ n4_ n5_ n6_
                        (try clear hb)
                        (try clear hb2)
                        (try clear hk)
                        (try clear hi)
                        refine hK.out _ _ ⟨(blk_cell BK353.out 0).trans rfl, (blk_cell BK353.out 1).trans rfl, (blk_cell BK353.out 2).trans rfl, HS3_, HS4_, HS5_, HS6_, HS7_, HS8_, HS9_, HS10_, HS11_, HS12_, HS13_, HS14_, HS15_, HS16_, HS17_, HS18_, HS19_, HS20_⟩ (fun hHeld => ?_)
                        clear hK K
                        refine nm_ ?_
                        refine go_ ?_ [12, 13, 14, 15, 16, 18, 19, 20, 21, 1017, 1022, 23, 24, 25, 26, 27, 28, 29, 31, 32, 33, 34, 1030, 1035, 36, 37] ?_
                        refine done_ (done_of HT_.out (by kernel_rfl)) ?_
                        try go_wp2
                        go_roundg k5
                        case measure => have := HJ5.out; have := HK2.out; have := HJ36.out; have := HJ39.out; have := HK5.out; omega
                        case rel => exact ⟨(wrap64 (x10_5 + 1)), z_3, H', ⟨z_74 HJ5.out HK2.out HJ36.out HJ39.out HK5.out⟩, ⟨z_17 HO_4.out⟩, ⟨z_17 HO_5.out⟩, ⟨z_17 HO_6.out⟩, ⟨z_17 HO_354001.out⟩, ⟨z_17 HO_354002.out⟩, ⟨z_7 BK353.out⟩, ⟨z_8 HB.out GE353.out⟩⟩
                      ·rw [if_neg c54] at H
                       have c54b0 : decide (((rd_T38 t354 x9_2).f1) < ((rd_T38 t354 x10_5).f2)) = false := decide_eq_false c54
                       clear c54
                       have H' := Aside0.mk H
                       clear H
                       try go_wp2
                       have n0_ := Aside0.mk (Kd.R_drew HO_4.out)
                       have n1_ := Aside0.mk (Kd.R_drew HO_5.out)
                       have n2_ := Aside0.mk (Kd.R_drew HO_6.out)
                       have n3_ := Aside0.mk (Kd.R_drew HO_354001.out)
                       have n4_ := Aside0.mk (Kd.R_drew HO_354002.out)
                       have n5_ := Aside0.mk (blk_drew BK353.out)
                       have n6_ := Aside0.mk (below_drew1 HB.out)
                       clear HO_4
                       clear HO_5
                       clear HO_6
                       clear HO_354001
                       clear HO_354002
                       clear BK353
                       clear HB
                       have HO_4 := n0_
                       have HO_5 := n1_
                       have HO_6 := n2_
                       have HO_354001 := n3_
                       have HO_354002 := n4_
                       have BK353 := n5_
                       have HB := n6_
                       clear n0_ n1_ n2_ n3_ n4_ n5_ n6_
                       have p371 : 0 ≤ (x9_2 : Int) := of_decide_eq_true z_5
                       have q371 : x9_2 < (t354.length : Int) := of_decide_eq_true z_5
                       obtain ⟨ad371, e371, hx371_0, hx371_1, hx371_2⟩ := at_T38 (Kd.R_reads' HO_6.out).2.2 x9_2 p371 q371
                       obtain rfl : ad366 = ad371 := (by injection e371)
                       replace p371 := eq_true p371
                       replace q371 := eq_true q371
                       have p372 : 0 ≤ (x10_5 : Int) := of_decide_eq_true z_5
                       have q372 : x10_5 < (t354.length : Int) := of_decide_eq_true z_5
                       obtain ⟨ad372, e372, hx372_0, hx372_1, hx372_2⟩ := at_T38 (Kd.R_reads' HO_6.out).2.2 x10_5 p372 q372
                       obtain rfl : ad366 = ad372 := (by injection e372)
                       replace p372 := eq_true p372
                       replace q372 := eq_true q372
                       have p374 : 0 ≤ (x9_2 : Int) := of_decide_eq_true z_5
                       have q374 : x9_2 < (t354.length : Int) := of_decide_eq_true z_5
                       obtain ⟨ad374, e374, hx374_0, hx374_1, hx374_2⟩ := at_T38 (Kd.R_reads' HO_6.out).2.2 x9_2 p374 q374
                       obtain rfl : ad366 = ad374 := (by injection e374)
                       replace p374 := eq_true p374
                       replace q374 := eq_true q374
                       have p375 : 0 ≤ (x10_5 : Int) := of_decide_eq_true z_5
                       have q375 : x10_5 < (t354.length : Int) := of_decide_eq_true z_5
                       obtain ⟨ad375, e375, hx375_0, hx375_1, hx375_2⟩ := at_T38 (Kd.R_reads' HO_6.out).2.2 x10_5 p375 q375
                       obtain rfl : ad366 = ad375 := (by injection e375)
                       replace p375 := eq_true p375
                       replace q375 := eq_true q375
                       refine st_ 38 (fun w' => w'.cell? ⟨gb353, 0, none⟩ = some (.string t340) ∧ w'.cell? ⟨gb353, 1, none⟩ = some (.slice Ao10 t341.length co10) ∧ w'.cell? ⟨gb353, 2, none⟩ = some (.slice Ao11 t344.length co11) ∧ w'.cell? (ad366.add ((x9_2).toNat * 3)) = some (.string ((rd_T38 t354 x9_2).f0)) ∧ w'.cell? ⟨(ad366.add ((x9_2).toNat * 3)).block, (ad366.add ((x9_2).toNat * 3)).off + 1, none⟩ = some (.int .i64 ((rd_T38 t354 x9_2).f1)) ∧ w'.cell? ⟨(ad366.add ((x9_2).toNat * 3)).block, (ad366.add ((x9_2).toNat * 3)).off + 2, none⟩ = some (.int .i64 ((rd_T38 t354 x9_2).f2)) ∧ w'.cell? (ad366.add ((x10_5).toNat * 3)) = some (.string ((rd_T38 t354 x10_5).f0)) ∧ w'.cell? ⟨(ad366.add ((x10_5).toNat * 3)).block, (ad366.add ((x10_5).toNat * 3)).off + 1, none⟩ = some (.int .i64 ((rd_T38 t354 x10_5).f1)) ∧ w'.cell? ⟨(ad366.add ((x10_5).toNat * 3)).block, (ad366.add ((x10_5).toNat * 3)).off + 2, none⟩ = some (.int .i64 ((rd_T38 t354 x10_5).f2)) ∧ w'.cell? (ad366.add ((x9_2).toNat * 3)) = some (.string ((rd_T38 t354 x9_2).f0)) ∧ w'.cell? ⟨(ad366.add ((x9_2).toNat * 3)).block, (ad366.add ((x9_2).toNat * 3)).off + 1, none⟩ = some (.int .i64 ((rd_T38 t354 x9_2).f1)) ∧ w'.cell? ⟨(ad366.add ((x9_2).toNat * 3)).block, (ad366.add ((x9_2).toNat * 3)).off + 2, none⟩ = some (.int .i64 ((rd_T38 t354 x9_2).f2)) ∧ w'.cell? (ad366.add ((x10_5).toNat * 3)) = some (.string ((rd_T38 t354 x10_5).f0)) ∧ w'.cell? ⟨(ad366.add ((x10_5).toNat * 3)).block, (ad366.add ((x10_5).toNat * 3)).off + 1, none⟩ = some (.int .i64 ((rd_T38 t354 x10_5).f1)) ∧ w'.cell? ⟨(ad366.add ((x10_5).toNat * 3)).block, (ad366.add ((x10_5).toNat * 3)).off + 2, none⟩ = some (.int .i64 ((rd_T38 t354 x10_5).f2))) [] ⟨(blk_cell BK353.out 0).trans rfl, (blk_cell BK353.out 1).trans rfl, (blk_cell BK353.out 2).trans rfl, hx371_0, hx371_1, hx371_2, hx372_0, hx372_1, hx372_2, hx374_0, hx374_1, hx374_2, hx375_0, hx375_1, hx375_2⟩ (fun hHeld => ?_); refine with_tabW laws_FnLaidOver.tab18 laws_FnLaidOver.bits18 (fun HT_ HW_ => ?_)
                       generalize wr.drew = w60 at HO_4 HO_5 HO_6 HO_354001 HO_354002 BK353 HB hx371_0 hx371_1 hx371_2 hx372_0 hx372_1 hx372_2 hx374_0 hx374_1 hx374_2 hx375_0 hx375_1 hx375_2 hHeld ⊢
                       refine go_ ?_ [1, 2, 3, 4, 6, 7, 8, 9, 1000, 1005, 1010] ?_
                       refine on_ 11 97 (fun K hK => ?_)
                       refine gs_ Try.func11 #[.agg #[.string t340, .slice Ao10 t341.length co10, .slice Ao11 t344.length co11], .string ((rd_T38 t354 x9_2).f0), .string ((rd_T38 t354 x10_5).f0)] ?_
                       with_reducible refine (impl_Above.calls k5 t340 _ _ t341 _ _ t344 ((rd_T38 t354 x9_2).f0) ((rd_T38 t354 x10_5).f0) true _ ?side1 ?side2 ?side3 ?side4 A52.out).mono ?_
                       (case side1 => exact z_47 HO_354001.out)
                       (case side2 => exact (Kd.R_reads' HO_354001.out).2.1)
                       (case side3 => exact z_47 HO_354002.out)
                       (case side4 => exact (Kd.R_reads' HO_354002.out).2.1)
                       rintro e w61 ⟨rfl, hb⟩
                       have HS3_ := (hb.cell (World.block_lt_of_cell? _ _ (hHeld.2.2.2.1))).trans (hHeld.2.2.2.1)
                       have HS4_ := (hb.cell (World.block_lt_of_cell? _ _ (hHeld.2.2.2.2.1))).trans (hHeld.2.2.2.2.1)
                       have HS5_ := (hb.cell (World.block_lt_of_cell? _ _ (hHeld.2.2.2.2.2.1))).trans (hHeld.2.2.2.2.2.1)
                       have HS6_ := (hb.cell (World.block_lt_of_cell? _ _ (hHeld.2.2.2.2.2.2.1))).trans (hHeld.2.2.2.2.2.2.1)
                       have HS7_ := (hb.cell (World.block_lt_of_cell? _ _ (hHeld.2.2.2.2.2.2.2.1))).trans (hHeld.2.2.2.2.2.2.2.1)
                       have HS8_ := (hb.cell (World.block_lt_of_cell? _ _ (hHeld.2.2.2.2.2.2.2.2.1))).trans (hHeld.2.2.2.2.2.2.2.2.1)
                       have HS9_ := (hb.cell (World.block_lt_of_cell? _ _ (hHeld.2.2.2.2.2.2.2.2.2.1))).trans (hHeld.2.2.2.2.2.2.2.2.2.1)
                       have HS10_ := (hb.cell (World.block_lt_of_cell? _ _ (hHeld.2.2.2.2.2.2.2.2.2.2.1))).trans (hHeld.2.2.2.2.2.2.2.2.2.2.1)
                       have HS11_ := (hb.cell (World.block_lt_of_cell? _ _ (hHeld.2.2.2.2.2.2.2.2.2.2.2.1))).trans (hHeld.2.2.2.2.2.2.2.2.2.2.2.1)
                       have HS12_ := (hb.cell (World.block_lt_of_cell? _ _ (hHeld.2.2.2.2.2.2.2.2.2.2.2.2.1))).trans (hHeld.2.2.2.2.2.2.2.2.2.2.2.2.1)
                       have HS13_ := (hb.cell (World.block_lt_of_cell? _ _ (hHeld.2.2.2.2.2.2.2.2.2.2.2.2.2.1))).trans (hHeld.2.2.2.2.2.2.2.2.2.2.2.2.2.1)
                       have HS14_ := (hb.cell (World.block_lt_of_cell? _ _ (hHeld.2.2.2.2.2.2.2.2.2.2.2.2.2.2))).trans (hHeld.2.2.2.2.2.2.2.2.2.2.2.2.2.2)
                       refine ⟨_, rfl, ?_⟩
                       have n0_ := Aside0.mk (Kd.R_below (z_17 HO_4.out) hb)
                       have n1_ := Aside0.mk (Kd.R_below (z_17 HO_5.out) hb)
                       have n2_ := Aside0.mk (Kd.R_below (z_17 HO_6.out) hb)
                       have n3_ := Aside0.mk (Kd.R_below (z_17 HO_354001.out) hb)
                       have n4_ := Aside0.mk (Kd.R_below (z_17 HO_354002.out) hb)
                       have n5_ := Aside0.mk (blk_below (g := gb353) (o := .cells #[.string t340, .slice Ao10 t341.length co10, .slice Ao11 t344.length co11] 27 (0, 0)) (z_7 BK353.out) hb)
                       have n6_ := Aside0.mk (below_step (z_8 HB.out GE353.out) hb)
                       clear HO_4
                       clear HO_5
                       clear HO_6
                       clear HO_354001
                       clear HO_354002
                       clear BK353
                       clear HB
                       have HO_4 := n0_
                       have HO_5 := n1_
                       have HO_6 := n2_
                       have HO_354001 := n3_
                       have HO_354002 := n4_
                       have BK353 := n5_
                       have HB := n6_
                       clear n0_ n1_ n2_ n3_ n4_ n5_ n6_
                       (try clear hb)
                       (try clear hb2)
                       (try clear hk)
                       (try clear hi)
                       refine hK.out _ _ ⟨(blk_cell BK353.out 0).trans rfl, (blk_cell BK353.out 1).trans rfl, (blk_cell BK353.out 2).trans rfl, HS3_, HS4_, HS5_, HS6_, HS7_, HS8_, HS9_, HS10_, HS11_, HS12_, HS13_, HS14_⟩ (fun hHeld => ?_)
                       clear hK K
                       refine nm_ ?_
                       refine go_ ?_ [12, 13, 14, 15, 16, 18, 19, 20, 21, 1017, 1022, 23, 24, 25, 2026, 2027, 2028, 2029, 2030, 2031, 2032, 2033, 2034, 2035, 2036, 37] ?_
                       refine done_ (done_of HT_.out (by kernel_rfl)) ?_
                       try go_wp2
                       go_roundg k5
                       case measure => have := HJ5.out; have := HK2.out; have := HJ36.out; have := HJ39.out; have := HK5.out; omega
                       case rel => exact ⟨(wrap64 (x10_5 + 1)), z_3, H', ⟨z_74 HJ5.out HK2.out HJ36.out HJ39.out HK5.out⟩, ⟨z_17 HO_4.out⟩, ⟨z_17 HO_5.out⟩, ⟨z_17 HO_6.out⟩, ⟨z_17 HO_354001.out⟩, ⟨z_17 HO_354002.out⟩, ⟨z_7 BK353.out⟩, ⟨z_8 HB.out GE353.out⟩⟩
                     ·replace c53 := Bool.eq_false_iff.mpr c53
                      subst c53
                      have H1 : (laws_FnLaidOver.l1 k5 t347 t350 t354 x8_36 x9_2 (wrap64 (x10_5 + 1)) t340 t341 t344) = some r := by rw [if_neg (show ¬ (false = true) by decide)] at H; exact H
                      clear H
                      have H := H1
                      clear H1
                      have H' := Aside0.mk H
                      clear H
                      try go_wp2
                      have n0_ := Aside0.mk (Kd.R_drew HO_4.out)
                      have n1_ := Aside0.mk (Kd.R_drew HO_5.out)
                      have n2_ := Aside0.mk (Kd.R_drew HO_6.out)
                      have n3_ := Aside0.mk (Kd.R_drew HO_354001.out)
                      have n4_ := Aside0.mk (Kd.R_drew HO_354002.out)
                      have n5_ := Aside0.mk (blk_drew BK353.out)
                      have n6_ := Aside0.mk (below_drew1 HB.out)
                      clear HO_4
                      clear HO_5
                      clear HO_6
                      clear HO_354001
                      clear HO_354002
                      clear BK353
                      clear HB
                      have HO_4 := n0_
                      have HO_5 := n1_
                      have HO_6 := n2_
                      have HO_354001 := n3_
                      have HO_354002 := n4_
                      have BK353 := n5_
                      have HB := n6_
                      clear n0_ n1_ n2_ n3_ n4_ n5_ n6_
                      have p371 : 0 ≤ (x9_2 : Int) := of_decide_eq_true z_5
                      have q371 : x9_2 < (t354.length : Int) := of_decide_eq_true z_5
                      obtain ⟨ad371, e371, hx371_0, hx371_1, hx371_2⟩ := at_T38 (Kd.R_reads' HO_6.out).2.2 x9_2 p371 q371
                      obtain rfl : ad366 = ad371 := (by injection e371)
                      replace p371 := eq_true p371
                      replace q371 := eq_true q371
                      have p372 : 0 ≤ (x10_5 : Int) := of_decide_eq_true z_5
                      have q372 : x10_5 < (t354.length : Int) := of_decide_eq_true z_5
                      obtain ⟨ad372, e372, hx372_0, hx372_1, hx372_2⟩ := at_T38 (Kd.R_reads' HO_6.out).2.2 x10_5 p372 q372
                      obtain rfl : ad366 = ad372 := (by injection e372)
                      replace p372 := eq_true p372
                      replace q372 := eq_true q372
                      refine st_ 38 (fun w' => w'.cell? ⟨gb353, 0, none⟩ = some (.string t340) ∧ w'.cell? ⟨gb353, 1, none⟩ = some (.slice Ao10 t341.length co10) ∧ w'.cell? ⟨gb353, 2, none⟩ = some (.slice Ao11 t344.length co11) ∧ w'.cell? (ad366.add ((x9_2).toNat * 3)) = some (.string ((rd_T38 t354 x9_2).f0)) ∧ w'.cell? ⟨(ad366.add ((x9_2).toNat * 3)).block, (ad366.add ((x9_2).toNat * 3)).off + 1, none⟩ = some (.int .i64 ((rd_T38 t354 x9_2).f1)) ∧ w'.cell? ⟨(ad366.add ((x9_2).toNat * 3)).block, (ad366.add ((x9_2).toNat * 3)).off + 2, none⟩ = some (.int .i64 ((rd_T38 t354 x9_2).f2)) ∧ w'.cell? (ad366.add ((x10_5).toNat * 3)) = some (.string ((rd_T38 t354 x10_5).f0)) ∧ w'.cell? ⟨(ad366.add ((x10_5).toNat * 3)).block, (ad366.add ((x10_5).toNat * 3)).off + 1, none⟩ = some (.int .i64 ((rd_T38 t354 x10_5).f1)) ∧ w'.cell? ⟨(ad366.add ((x10_5).toNat * 3)).block, (ad366.add ((x10_5).toNat * 3)).off + 2, none⟩ = some (.int .i64 ((rd_T38 t354 x10_5).f2))) [] ⟨(blk_cell BK353.out 0).trans rfl, (blk_cell BK353.out 1).trans rfl, (blk_cell BK353.out 2).trans rfl, hx371_0, hx371_1, hx371_2, hx372_0, hx372_1, hx372_2⟩ (fun hHeld => ?_); refine with_tabW laws_FnLaidOver.tab18 laws_FnLaidOver.bits18 (fun HT_ HW_ => ?_)
                      generalize wr.drew = w62 at HO_4 HO_5 HO_6 HO_354001 HO_354002 BK353 HB hx371_0 hx371_1 hx371_2 hx372_0 hx372_1 hx372_2 hHeld ⊢
                      refine go_ ?_ [1, 2, 3, 4, 6, 7, 8, 9, 1000, 1005, 1010] ?_
                      refine on_ 11 97 (fun K hK => ?_)
                      refine gs_ Try.func11 #[.agg #[.string t340, .slice Ao10 t341.length co10, .slice Ao11 t344.length co11], .string ((rd_T38 t354 x9_2).f0), .string ((rd_T38 t354 x10_5).f0)] ?_
                      with_reducible refine (impl_Above.calls k5 t340 _ _ t341 _ _ t344 ((rd_T38 t354 x9_2).f0) ((rd_T38 t354 x10_5).f0) false _ ?side1 ?side2 ?side3 ?side4 A52.out).mono ?_
                      (case side1 => exact z_47 HO_354001.out)
                      (case side2 => exact (Kd.R_reads' HO_354001.out).2.1)
                      (case side3 => exact z_47 HO_354002.out)
                      (case side4 => exact (Kd.R_reads' HO_354002.out).2.1)
                      rintro e w63 ⟨rfl, hb⟩
                      have HS3_ := (hb.cell (World.block_lt_of_cell? _ _ (hHeld.2.2.2.1))).trans (hHeld.2.2.2.1)
                      have HS4_ := (hb.cell (World.block_lt_of_cell? _ _ (hHeld.2.2.2.2.1))).trans (hHeld.2.2.2.2.1)
                      have HS5_ := (hb.cell (World.block_lt_of_cell? _ _ (hHeld.2.2.2.2.2.1))).trans (hHeld.2.2.2.2.2.1)
                      have HS6_ := (hb.cell (World.block_lt_of_cell? _ _ (hHeld.2.2.2.2.2.2.1))).trans (hHeld.2.2.2.2.2.2.1)
                      have HS7_ := (hb.cell (World.block_lt_of_cell? _ _ (hHeld.2.2.2.2.2.2.2.1))).trans (hHeld.2.2.2.2.2.2.2.1)
                      have HS8_ := (hb.cell (World.block_lt_of_cell? _ _ (hHeld.2.2.2.2.2.2.2.2))).trans (hHeld.2.2.2.2.2.2.2.2)
                      refine ⟨_, rfl, ?_⟩
                      have n0_ := Aside0.mk (Kd.R_below (z_17 HO_4.out) hb)
                      have n1_ := Aside0.mk (Kd.R_below (z_17 HO_5.out) hb)
                      have n2_ := Aside0.mk (Kd.R_below (z_17 HO_6.out) hb)
                      have n3_ := Aside0.mk (Kd.R_below (z_17 HO_354001.out) hb)
                      have n4_ := Aside0.mk (Kd.R_below (z_17 HO_354002.out) hb)
                      have n5_ := Aside0.mk (blk_below (g := gb353) (o := .cells #[.string t340, .slice Ao10 t341.length co10, .slice Ao11 t344.length co11] 27 (0, 0)) (z_7 BK353.out) hb)
                      have n6_ := Aside0.mk (below_step (z_8 HB.out GE353.out) hb)
                      clear HO_4
                      clear HO_5
                      clear HO_6
                      clear HO_354001
                      clear HO_354002
                      clear BK353
                      clear HB
                      have HO_4 := n0_
                      have HO_5 := n1_
                      have HO_6 := n2_
                      have HO_354001 := n3_
                      have HO_354002 := n4_
                      have BK353 := n5_
                      have HB := n6_
                      clear n0_ n1_ n2_ n3_ n4_ n5_ n6_
                      (try clear hb)
                      (try clear hb2)
                      (try clear hk)
                      (try clear hi)
                      refine hK.out _ _ ⟨(blk_cell BK353.out 0).trans rfl, (blk_cell BK353.out 1).trans rfl, (blk_cell BK353.out 2).trans rfl, HS3_, HS4_, HS5_, HS6_, HS7_, HS8_⟩ (fun hHeld => ?_)
                      clear hK K
                      refine nm_ ?_
                      refine go_ ?_ [12, 2013, 2014, 2015, 2016, 2017, 2018, 2019, 2020, 2021, 2022, 2023, 24, 25, 2026, 2027, 2028, 2029, 2030, 2031, 2032, 2033, 2034, 2035, 2036, 37] ?_
                      refine done_ (done_of HT_.out (by kernel_rfl)) ?_
                      try go_wp2
                      go_roundg k5
                      case measure => have := HJ5.out; have := HK2.out; have := HJ36.out; have := HJ39.out; have := HK5.out; omega
                      case rel => exact ⟨(wrap64 (x10_5 + 1)), z_3, H', ⟨z_74 HJ5.out HK2.out HJ36.out HJ39.out HK5.out⟩, ⟨z_17 HO_4.out⟩, ⟨z_17 HO_5.out⟩, ⟨z_17 HO_6.out⟩, ⟨z_17 HO_354001.out⟩, ⟨z_17 HO_354002.out⟩, ⟨z_7 BK353.out⟩, ⟨z_8 HB.out GE353.out⟩⟩
                    ·rw [if_neg c51] at H
                     exact absurd H (by simp)
                   ·rw [if_neg c50] at H
                    exact absurd H (by simp)
                  ·rw [if_neg c49] at H
                   exact absurd H (by simp)
                 ·rw [if_neg c48] at H
                  exact absurd H (by simp)
                ·rw [if_neg c47] at H
                 have c47b0 : decide (x10_5 < x9_2) = false := decide_eq_false c47
                 clear c47
                 have H' := Aside0.mk H
                 clear H
                 go_wp2
                 go_roundg k5
                 case measure => have := HJ5.out; have := HK2.out; have := HJ36.out; have := HJ39.out; have := HK5.out; omega
                 case rel => exact ⟨(x8_36), (wrap64 (x9_2 + 1)), z_3, z_3, H', ⟨z_74 HJ5.out HK2.out HJ36.out HJ39.out HK5.out⟩, ⟨z_17 HO_4.out⟩, ⟨z_17 HO_5.out⟩, ⟨z_17 HO_6.out⟩, ⟨z_17 HO_354001.out⟩, ⟨z_17 HO_354002.out⟩, ⟨z_7 BK353.out⟩, ⟨z_8 HB.out GE353.out⟩⟩
        ·rw [if_neg c36] at H
         exact absurd H (by simp)
       ·rw [if_neg c35] at H
        have c35b0 : decide (x9_2 < (t354.length : Int)) = false := decide_eq_false c35
        clear c35
        replace H := Option.bind_eq_some_iff.mp H
        obtain ⟨t378, A640, H⟩ := H
        replace H : (if x8_2 = (wrap64 (64 + (wrap64 (2 * t378)))) then ((impl_Peak.f k2 t340 t341 t344 t347 t350).bind fun t379 => ((impl_Flat.f k2 t340 t341 t344 t347 t350).bind fun t380 => (if t379 ≤ t380 then ((laws_together.f k2 t354 t340 t341 t344).bind fun t381 => (some t381)) else (some false)))) else (some false)) = some r := H
        have A64 := Aside0.mk A640
        clear A640
        by_cases c65 : x8_2 = (wrap64 (64 + (wrap64 (2 * t378))))
        ·rw [if_pos c65] at H
         have c65b0 : (x8_2 == (wrap64 (64 + (wrap64 (2 * t378))))) = true := beq_iff_eq.mpr c65
         have c65b1 : (x8_2 != (wrap64 (64 + (wrap64 (2 * t378))))) = false := bne_eq_false_iff_eq.mpr c65
         clear c65
         replace H := Option.bind_eq_some_iff.mp H
         obtain ⟨t379, A660, H⟩ := H
         replace H : ((impl_Flat.f k2 t340 t341 t344 t347 t350).bind fun t380 => (if t379 ≤ t380 then ((laws_together.f k2 t354 t340 t341 t344).bind fun t381 => (some t381)) else (some false))) = some r := H
         have A66 := Aside0.mk A660
         clear A660
         replace H := Option.bind_eq_some_iff.mp H
         obtain ⟨t380, A670, H⟩ := H
         replace H : (if t379 ≤ t380 then ((laws_together.f k2 t354 t340 t341 t344).bind fun t381 => (some t381)) else (some false)) = some r := H
         have A67 := Aside0.mk A670
         clear A670
         by_cases c68 : t379 ≤ t380
         ·rw [if_pos c68] at H
          have c68b0 : decide (t379 ≤ t380) = true := decide_eq_true c68
          clear c68
          replace H := Option.bind_eq_some_iff.mp H
          obtain ⟨t381, A690, H⟩ := H
          replace H : (some t381) = some r := H
          have A69 := Aside0.mk A690
          clear A690
          obtain rfl := Option.some.inj H
          obtain ⟨Ao70, co70, eo70⟩ := Kd.R_slice HO_6.out
          subst eo70
          try go_wp2
          have n0_ := Aside0.mk (Kd.R_drew HO_4.out)
          have n1_ := Aside0.mk (Kd.R_drew HO_5.out)
          have n2_ := Aside0.mk (Kd.R_drew HO_6.out)
          have n3_ := Aside0.mk (Kd.R_drew HO_354001.out)
          have n4_ := Aside0.mk (Kd.R_drew HO_354002.out)
          have n5_ := Aside0.mk (blk_drew BK353.out)
          have n6_ := Aside0.mk (below_drew1 HB.out)
          clear HO_4
          clear HO_5
          clear HO_6
          clear HO_354001
          clear HO_354002
          clear BK353
          clear HB
          have HO_4 := n0_
          have HO_5 := n1_
          have HO_6 := n2_
          have HO_354001 := n3_
          have HO_354002 := n4_
          have BK353 := n5_
          have HB := n6_
          clear n0_ n1_ n2_ n3_ n4_ n5_ n6_
          refine st_ 25 (fun w' => w'.cell? ⟨gb353, 0, none⟩ = some (.string t340) ∧ w'.cell? ⟨gb353, 1, none⟩ = some (.slice Ao10 t341.length co10) ∧ w'.cell? ⟨gb353, 2, none⟩ = some (.slice Ao11 t344.length co11)) [] ⟨(blk_cell BK353.out 0).trans rfl, (blk_cell BK353.out 1).trans rfl, (blk_cell BK353.out 2).trans rfl⟩ (fun hHeld => ?_); refine with_tabW laws_FnLaidOver.tab20 laws_FnLaidOver.bits20 (fun HT_ HW_ => ?_)
          generalize wr.drew = w71 at HO_4 HO_5 HO_6 HO_354001 HO_354002 BK353 HB hHeld ⊢
          refine go_ ?_ [0, 2, 3, 1001] ?_
          refine on_ 4 128 (fun K hK => ?_)
          refine gs_ Try.func12 #[.agg #[.string t340, .slice Ao10 t341.length co10, .slice Ao11 t344.length co11], .slice Ao12 t347.length co12, .slice Ao13 t350.length co13] ?_
          with_reducible refine (impl_Peak.calls k2 t340 _ _ t341 _ _ t344 _ _ t347 _ _ t350 t378 _ ?side1 ?side2 ?side3 ?side4 ?side5 ?side6 ?side7 ?side8 A64.out).mono ?_
          (case side1 => exact z_47 HO_354001.out)
          (case side2 => exact (Kd.R_reads' HO_354001.out).2.1)
          (case side3 => exact z_47 HO_354002.out)
          (case side4 => exact (Kd.R_reads' HO_354002.out).2.1)
          (case side5 => exact z_47 HO_4.out)
          (case side6 => exact (Kd.R_reads' HO_4.out).2.1)
          (case side7 => exact z_47 HO_5.out)
          (case side8 => exact (Kd.R_reads' HO_5.out).2.1)
          rintro e w72 ⟨rfl, hb⟩
          refine ⟨_, rfl, ?_⟩
          have n0_ := Aside0.mk (Kd.R_below (z_17 HO_4.out) hb)
          have n1_ := Aside0.mk (Kd.R_below (z_17 HO_5.out) hb)
          have n2_ := Aside0.mk (Kd.R_below (z_17 HO_6.out) hb)
          have n3_ := Aside0.mk (Kd.R_below (z_17 HO_354001.out) hb)
          have n4_ := Aside0.mk (Kd.R_below (z_17 HO_354002.out) hb)
          have n5_ := Aside0.mk (blk_below (g := gb353) (o := .cells #[.string t340, .slice Ao10 t341.length co10, .slice Ao11 t344.length co11] 27 (0, 0)) (z_7 BK353.out) hb)
          have n6_ := Aside0.mk (below_step (z_8 HB.out GE353.out) hb)
          clear HO_4
          clear HO_5
          clear HO_6
          clear HO_354001
          clear HO_354002
          clear BK353
          clear HB
          have HO_4 := n0_
          have HO_5 := n1_
          have HO_6 := n2_
          have HO_354001 := n3_
          have HO_354002 := n4_
          have BK353 := n5_
          have HB := n6_
          clear n0_ n1_ n2_ n3_ n4_ n5_ n6_
          (try clear hb)
          (try clear hb2)
          (try clear hk)
          (try clear hi)
          refine hK.out _ _ ⟨(blk_cell BK353.out 0).trans rfl, (blk_cell BK353.out 1).trans rfl, (blk_cell BK353.out 2).trans rfl⟩ (fun hHeld => ?_)
          clear hK K
          refine nm_ ?_
          refine go_ ?_ [5, 6, 7, 8, 10, 11, 14, 15, 1009, 1013] ?_
          refine on_ 12 136 (fun K hK => ?_)
          refine gs_ Try.func12 #[.agg #[.string t340, .slice Ao10 t341.length co10, .slice Ao11 t344.length co11], .slice Ao12 t347.length co12, .slice Ao13 t350.length co13] ?_
          with_reducible refine (impl_Peak.calls k2 t340 _ _ t341 _ _ t344 _ _ t347 _ _ t350 t379 _ ?side1 ?side2 ?side3 ?side4 ?side5 ?side6 ?side7 ?side8 A66.out).mono ?_
          (case side1 => exact z_47 HO_354001.out)
          (case side2 => exact (Kd.R_reads' HO_354001.out).2.1)
          (case side3 => exact z_47 HO_354002.out)
          (case side4 => exact (Kd.R_reads' HO_354002.out).2.1)
          (case side5 => exact z_47 HO_4.out)
          (case side6 => exact (Kd.R_reads' HO_4.out).2.1)
          (case side7 => exact z_47 HO_5.out)
          (case side8 => exact (Kd.R_reads' HO_5.out).2.1)
          rintro e w73 ⟨rfl, hb⟩
          refine ⟨_, rfl, ?_⟩
          have n0_ := Aside0.mk (Kd.R_below (z_17 HO_4.out) hb)
          have n1_ := Aside0.mk (Kd.R_below (z_17 HO_5.out) hb)
          have n2_ := Aside0.mk (Kd.R_below (z_17 HO_6.out) hb)
          have n3_ := Aside0.mk (Kd.R_below (z_17 HO_354001.out) hb)
          have n4_ := Aside0.mk (Kd.R_below (z_17 HO_354002.out) hb)
          have n5_ := Aside0.mk (blk_below (g := gb353) (o := .cells #[.string t340, .slice Ao10 t341.length co10, .slice Ao11 t344.length co11] 27 (0, 0)) (z_7 BK353.out) hb)
          have n6_ := Aside0.mk (below_step (z_8 HB.out GE353.out) hb)
          clear HO_4
          clear HO_5
          clear HO_6
          clear HO_354001
          clear HO_354002
          clear BK353
          clear HB
          have HO_4 := n0_
          have HO_5 := n1_
          have HO_6 := n2_
          have HO_354001 := n3_
          have HO_354002 := n4_
          have BK353 := n5_
          have HB := n6_
          clear n0_ n1_ n2_ n3_ n4_ n5_ n6_
          (try clear hb)
          (try clear hb2)
          (try clear hk)
          (try clear hi)
          refine hK.out _ _ ⟨(blk_cell BK353.out 0).trans rfl, (blk_cell BK353.out 1).trans rfl, (blk_cell BK353.out 2).trans rfl⟩ (fun hHeld => ?_)
          clear hK K
          refine nm_ ?_
          refine on_ 16 140 (fun K hK => ?_)
          refine gs_ Try.func13 #[.agg #[.string t340, .slice Ao10 t341.length co10, .slice Ao11 t344.length co11], .slice Ao12 t347.length co12, .slice Ao13 t350.length co13] ?_
          with_reducible refine (impl_Flat.calls k2 t340 _ _ t341 _ _ t344 _ _ t347 _ _ t350 t380 _ ?side1 ?side2 ?side3 ?side4 ?side5 ?side6 ?side7 ?side8 A67.out).mono ?_
          (case side1 => exact z_47 HO_354001.out)
          (case side2 => exact (Kd.R_reads' HO_354001.out).2.1)
          (case side3 => exact z_47 HO_354002.out)
          (case side4 => exact (Kd.R_reads' HO_354002.out).2.1)
          (case side5 => exact z_47 HO_4.out)
          (case side6 => exact (Kd.R_reads' HO_4.out).2.1)
          (case side7 => exact z_47 HO_5.out)
          (case side8 => exact (Kd.R_reads' HO_5.out).2.1)
          rintro e w74 ⟨rfl, hb⟩
          refine ⟨_, rfl, ?_⟩
          have n0_ := Aside0.mk (Kd.R_below (z_17 HO_4.out) hb)
          have n1_ := Aside0.mk (Kd.R_below (z_17 HO_5.out) hb)
          have n2_ := Aside0.mk (Kd.R_below (z_17 HO_6.out) hb)
          have n3_ := Aside0.mk (Kd.R_below (z_17 HO_354001.out) hb)
          have n4_ := Aside0.mk (Kd.R_below (z_17 HO_354002.out) hb)
          have n5_ := Aside0.mk (blk_below (g := gb353) (o := .cells #[.string t340, .slice Ao10 t341.length co10, .slice Ao11 t344.length co11] 27 (0, 0)) (z_7 BK353.out) hb)
          have n6_ := Aside0.mk (below_step (z_8 HB.out GE353.out) hb)
          clear HO_4
          clear HO_5
          clear HO_6
          clear HO_354001
          clear HO_354002
          clear BK353
          clear HB
          have HO_4 := n0_
          have HO_5 := n1_
          have HO_6 := n2_
          have HO_354001 := n3_
          have HO_354002 := n4_
          have BK353 := n5_
          have HB := n6_
          clear n0_ n1_ n2_ n3_ n4_ n5_ n6_
          (try clear hb)
          (try clear hb2)
          (try clear hk)
          (try clear hi)
          refine hK.out _ _ ⟨(blk_cell BK353.out 0).trans rfl, (blk_cell BK353.out 1).trans rfl, (blk_cell BK353.out 2).trans rfl⟩ (fun hHeld => ?_)
          clear hK K
          refine nm_ ?_
          refine go_ ?_ [17, 18, 19, 20, 1021] ?_
          refine on_ 22 146 (fun K hK => ?_)
          refine gs_ Try.func14 #[.slice Ao70 t354.length co70, .agg #[.string t340, .slice Ao10 t341.length co10, .slice Ao11 t344.length co11]] ?_
          with_reducible refine (laws_together.calls k2 _ _ t354 t340 _ _ t341 _ _ t344 t381 _ ?side1 ?side2 ?side3 ?side4 ?side5 ?side6 A69.out).mono ?_
          (case side1 => exact z_47 HO_6.out)
          (case side2 => exact (Kd.R_reads' HO_6.out).2.1)
          (case side3 => exact z_47 HO_354001.out)
          (case side4 => exact (Kd.R_reads' HO_354001.out).2.1)
          (case side5 => exact z_47 HO_354002.out)
          (case side6 => exact (Kd.R_reads' HO_354002.out).2.1)
          rintro e w75 ⟨rfl, hb⟩
          refine ⟨_, rfl, ?_⟩
          have n0_ := Aside0.mk (Kd.R_below (z_17 HO_4.out) hb)
          have n1_ := Aside0.mk (Kd.R_below (z_17 HO_5.out) hb)
          have n2_ := Aside0.mk (Kd.R_below (z_17 HO_6.out) hb)
          have n3_ := Aside0.mk (Kd.R_below (z_17 HO_354001.out) hb)
          have n4_ := Aside0.mk (Kd.R_below (z_17 HO_354002.out) hb)
          have n5_ := Aside0.mk (blk_below (g := gb353) (o := .cells #[.string t340, .slice Ao10 t341.length co10, .slice Ao11 t344.length co11] 27 (0, 0)) (z_7 BK353.out) hb)
          have n6_ := Aside0.mk (below_step (z_8 HB.out GE353.out) hb)
          clear HO_4
          clear HO_5
          clear HO_6
          clear HO_354001
          clear HO_354002
          clear BK353
          clear HB
          have HO_4 := n0_
          have HO_5 := n1_
          have HO_6 := n2_
          have HO_354001 := n3_
          have HO_354002 := n4_
          have BK353 := n5_
          have HB := n6_
          clear n0_ n1_ n2_ n3_ n4_ n5_ n6_
          (try clear hb)
          (try clear hb2)
          (try clear hk)
          (try clear hi)
          refine hK.out _ _ ⟨(blk_cell BK353.out 0).trans rfl, (blk_cell BK353.out 1).trans rfl, (blk_cell BK353.out 2).trans rfl⟩ (fun hHeld => ?_)
          clear hK K
          refine nm_ ?_
          refine go_ ?_ [23, 24] ?_
          refine done_ (done_of HT_.out (by kernel_rfl)) ?_
          try go_wp2
          go_ret
          exact ⟨z_9, z_8 HB.out GE353.out⟩
         ·rw [if_neg c68] at H
          have c68b0 : decide (t379 ≤ t380) = false := decide_eq_false c68
          clear c68
          obtain rfl := Option.some.inj H
          obtain ⟨Ao76, co76, eo76⟩ := Kd.R_slice HO_6.out
          subst eo76
          try go_wp2
          have n0_ := Aside0.mk (Kd.R_drew HO_4.out)
          have n1_ := Aside0.mk (Kd.R_drew HO_5.out)
          have n2_ := Aside0.mk (Kd.R_drew HO_6.out)
          have n3_ := Aside0.mk (Kd.R_drew HO_354001.out)
          have n4_ := Aside0.mk (Kd.R_drew HO_354002.out)
          have n5_ := Aside0.mk (blk_drew BK353.out)
          have n6_ := Aside0.mk (below_drew1 HB.out)
          clear HO_4
          clear HO_5
          clear HO_6
          clear HO_354001
          clear HO_354002
          clear BK353
          clear HB
          have HO_4 := n0_
          have HO_5 := n1_
          have HO_6 := n2_
          have HO_354001 := n3_
          have HO_354002 := n4_
          have BK353 := n5_
          have HB := n6_
          clear n0_ n1_ n2_ n3_ n4_ n5_ n6_
          refine st_ 25 (fun w' => w'.cell? ⟨gb353, 0, none⟩ = some (.string t340) ∧ w'.cell? ⟨gb353, 1, none⟩ = some (.slice Ao10 t341.length co10) ∧ w'.cell? ⟨gb353, 2, none⟩ = some (.slice Ao11 t344.length co11)) [] ⟨(blk_cell BK353.out 0).trans rfl, (blk_cell BK353.out 1).trans rfl, (blk_cell BK353.out 2).trans rfl⟩ (fun hHeld => ?_); refine with_tabW laws_FnLaidOver.tab20 laws_FnLaidOver.bits20 (fun HT_ HW_ => ?_)
          generalize wr.drew = w77 at HO_4 HO_5 HO_6 HO_354001 HO_354002 BK353 HB hHeld ⊢
          refine go_ ?_ [0, 2, 3, 1001] ?_
          refine on_ 4 128 (fun K hK => ?_)
          refine gs_ Try.func12 #[.agg #[.string t340, .slice Ao10 t341.length co10, .slice Ao11 t344.length co11], .slice Ao12 t347.length co12, .slice Ao13 t350.length co13] ?_
          with_reducible refine (impl_Peak.calls k2 t340 _ _ t341 _ _ t344 _ _ t347 _ _ t350 t378 _ ?side1 ?side2 ?side3 ?side4 ?side5 ?side6 ?side7 ?side8 A64.out).mono ?_
          (case side1 => exact z_47 HO_354001.out)
          (case side2 => exact (Kd.R_reads' HO_354001.out).2.1)
          (case side3 => exact z_47 HO_354002.out)
          (case side4 => exact (Kd.R_reads' HO_354002.out).2.1)
          (case side5 => exact z_47 HO_4.out)
          (case side6 => exact (Kd.R_reads' HO_4.out).2.1)
          (case side7 => exact z_47 HO_5.out)
          (case side8 => exact (Kd.R_reads' HO_5.out).2.1)
          rintro e w78 ⟨rfl, hb⟩
          refine ⟨_, rfl, ?_⟩
          have n0_ := Aside0.mk (Kd.R_below (z_17 HO_4.out) hb)
          have n1_ := Aside0.mk (Kd.R_below (z_17 HO_5.out) hb)
          have n2_ := Aside0.mk (Kd.R_below (z_17 HO_6.out) hb)
          have n3_ := Aside0.mk (Kd.R_below (z_17 HO_354001.out) hb)
          have n4_ := Aside0.mk (Kd.R_below (z_17 HO_354002.out) hb)
          have n5_ := Aside0.mk (blk_below (g := gb353) (o := .cells #[.string t340, .slice Ao10 t341.length co10, .slice Ao11 t344.length co11] 27 (0, 0)) (z_7 BK353.out) hb)
          have n6_ := Aside0.mk (below_step (z_8 HB.out GE353.out) hb)
          clear HO_4
          clear HO_5
          clear HO_6
          clear HO_354001
          clear HO_354002
          clear BK353
          clear HB
          have HO_4 := n0_
          have HO_5 := n1_
          have HO_6 := n2_
          have HO_354001 := n3_
          have HO_354002 := n4_
          have BK353 := n5_
          have HB := n6_
          clear n0_ n1_ n2_ n3_ n4_ n5_ n6_
          (try clear hb)
          (try clear hb2)
          (try clear hk)
          (try clear hi)
          refine hK.out _ _ ⟨(blk_cell BK353.out 0).trans rfl, (blk_cell BK353.out 1).trans rfl, (blk_cell BK353.out 2).trans rfl⟩ (fun hHeld => ?_)
          clear hK K
          refine nm_ ?_
          refine go_ ?_ [5, 6, 7, 8, 10, 11, 14, 15, 1009, 1013] ?_
          refine on_ 12 136 (fun K hK => ?_)
          refine gs_ Try.func12 #[.agg #[.string t340, .slice Ao10 t341.length co10, .slice Ao11 t344.length co11], .slice Ao12 t347.length co12, .slice Ao13 t350.length co13] ?_
          with_reducible refine (impl_Peak.calls k2 t340 _ _ t341 _ _ t344 _ _ t347 _ _ t350 t379 _ ?side1 ?side2 ?side3 ?side4 ?side5 ?side6 ?side7 ?side8 A66.out).mono ?_
          (case side1 => exact z_47 HO_354001.out)
          (case side2 => exact (Kd.R_reads' HO_354001.out).2.1)
          (case side3 => exact z_47 HO_354002.out)
          (case side4 => exact (Kd.R_reads' HO_354002.out).2.1)
          (case side5 => exact z_47 HO_4.out)
          (case side6 => exact (Kd.R_reads' HO_4.out).2.1)
          (case side7 => exact z_47 HO_5.out)
          (case side8 => exact (Kd.R_reads' HO_5.out).2.1)
          rintro e w79 ⟨rfl, hb⟩
          refine ⟨_, rfl, ?_⟩
          have n0_ := Aside0.mk (Kd.R_below (z_17 HO_4.out) hb)
          have n1_ := Aside0.mk (Kd.R_below (z_17 HO_5.out) hb)
          have n2_ := Aside0.mk (Kd.R_below (z_17 HO_6.out) hb)
          have n3_ := Aside0.mk (Kd.R_below (z_17 HO_354001.out) hb)
          have n4_ := Aside0.mk (Kd.R_below (z_17 HO_354002.out) hb)
          have n5_ := Aside0.mk (blk_below (g := gb353) (o := .cells #[.string t340, .slice Ao10 t341.length co10, .slice Ao11 t344.length co11] 27 (0, 0)) (z_7 BK353.out) hb)
          have n6_ := Aside0.mk (below_step (z_8 HB.out GE353.out) hb)
          clear HO_4
          clear HO_5
          clear HO_6
          clear HO_354001
          clear HO_354002
          clear BK353
          clear HB
          have HO_4 := n0_
          have HO_5 := n1_
          have HO_6 := n2_
          have HO_354001 := n3_
          have HO_354002 := n4_
          have BK353 := n5_
          have HB := n6_
          clear n0_ n1_ n2_ n3_ n4_ n5_ n6_
          (try clear hb)
          (try clear hb2)
          (try clear hk)
          (try clear hi)
          refine hK.out _ _ ⟨(blk_cell BK353.out 0).trans rfl, (blk_cell BK353.out 1).trans rfl, (blk_cell BK353.out 2).trans rfl⟩ (fun hHeld => ?_)
          clear hK K
          refine nm_ ?_
          refine on_ 16 140 (fun K hK => ?_)
          refine gs_ Try.func13 #[.agg #[.string t340, .slice Ao10 t341.length co10, .slice Ao11 t344.length co11], .slice Ao12 t347.length co12, .slice Ao13 t350.length co13] ?_
          with_reducible refine (impl_Flat.calls k2 t340 _ _ t341 _ _ t344 _ _ t347 _ _ t350 t380 _ ?side1 ?side2 ?side3 ?side4 ?side5 ?side6 ?side7 ?side8 A67.out).mono ?_
          (case side1 => exact z_47 HO_354001.out)
          (case side2 => exact (Kd.R_reads' HO_354001.out).2.1)
          (case side3 => exact z_47 HO_354002.out)
          (case side4 => exact (Kd.R_reads' HO_354002.out).2.1)
          (case side5 => exact z_47 HO_4.out)
          (case side6 => exact (Kd.R_reads' HO_4.out).2.1)
          (case side7 => exact z_47 HO_5.out)
          (case side8 => exact (Kd.R_reads' HO_5.out).2.1)
          rintro e w80 ⟨rfl, hb⟩
          refine ⟨_, rfl, ?_⟩
          have n0_ := Aside0.mk (Kd.R_below (z_17 HO_4.out) hb)
          have n1_ := Aside0.mk (Kd.R_below (z_17 HO_5.out) hb)
          have n2_ := Aside0.mk (Kd.R_below (z_17 HO_6.out) hb)
          have n3_ := Aside0.mk (Kd.R_below (z_17 HO_354001.out) hb)
          have n4_ := Aside0.mk (Kd.R_below (z_17 HO_354002.out) hb)
          have n5_ := Aside0.mk (blk_below (g := gb353) (o := .cells #[.string t340, .slice Ao10 t341.length co10, .slice Ao11 t344.length co11] 27 (0, 0)) (z_7 BK353.out) hb)
          have n6_ := Aside0.mk (below_step (z_8 HB.out GE353.out) hb)
          clear HO_4
          clear HO_5
          clear HO_6
          clear HO_354001
          clear HO_354002
          clear BK353
          clear HB
          have HO_4 := n0_
          have HO_5 := n1_
          have HO_6 := n2_
          have HO_354001 := n3_
          have HO_354002 := n4_
          have BK353 := n5_
          have HB := n6_
          clear n0_ n1_ n2_ n3_ n4_ n5_ n6_
          (try clear hb)
          (try clear hb2)
          (try clear hk)
          (try clear hi)
          refine hK.out _ _ ⟨(blk_cell BK353.out 0).trans rfl, (blk_cell BK353.out 1).trans rfl, (blk_cell BK353.out 2).trans rfl⟩ (fun hHeld => ?_)
          clear hK K
          refine nm_ ?_
          refine go_ ?_ [17, 18, 19, 2020, 2021, 2022, 23, 24] ?_
          refine done_ (done_of HT_.out (by kernel_rfl)) ?_
          try go_wp2
          go_ret
          exact ⟨z_9, z_8 HB.out GE353.out⟩
        ·rw [if_neg c65] at H
         have c65b0 : (x8_2 == (wrap64 (64 + (wrap64 (2 * t378))))) = false := beq_eq_false_iff_ne.mpr c65
         have c65b1 : (x8_2 != (wrap64 (64 + (wrap64 (2 * t378))))) = true := bne_iff_ne.mpr c65
         obtain rfl := Option.some.inj H
         obtain ⟨Ao81, co81, eo81⟩ := Kd.R_slice HO_6.out
         subst eo81
         try go_wp2
         have n0_ := Aside0.mk (Kd.R_drew HO_4.out)
         have n1_ := Aside0.mk (Kd.R_drew HO_5.out)
         have n2_ := Aside0.mk (Kd.R_drew HO_6.out)
         have n3_ := Aside0.mk (Kd.R_drew HO_354001.out)
         have n4_ := Aside0.mk (Kd.R_drew HO_354002.out)
         have n5_ := Aside0.mk (blk_drew BK353.out)
         have n6_ := Aside0.mk (below_drew1 HB.out)
         clear HO_4
         clear HO_5
         clear HO_6
         clear HO_354001
         clear HO_354002
         clear BK353
         clear HB
         have HO_4 := n0_
         have HO_5 := n1_
         have HO_6 := n2_
         have HO_354001 := n3_
         have HO_354002 := n4_
         have BK353 := n5_
         have HB := n6_
         clear n0_ n1_ n2_ n3_ n4_ n5_ n6_
         refine st_ 25 (fun w' => w'.cell? ⟨gb353, 0, none⟩ = some (.string t340) ∧ w'.cell? ⟨gb353, 1, none⟩ = some (.slice Ao10 t341.length co10) ∧ w'.cell? ⟨gb353, 2, none⟩ = some (.slice Ao11 t344.length co11)) [] ⟨(blk_cell BK353.out 0).trans rfl, (blk_cell BK353.out 1).trans rfl, (blk_cell BK353.out 2).trans rfl⟩ (fun hHeld => ?_); refine with_tabW laws_FnLaidOver.tab20 laws_FnLaidOver.bits20 (fun HT_ HW_ => ?_)
         generalize wr.drew = w82 at HO_4 HO_5 HO_6 HO_354001 HO_354002 BK353 HB hHeld ⊢
         refine go_ ?_ [0, 2, 3, 1001] ?_
         refine on_ 4 128 (fun K hK => ?_)
         refine gs_ Try.func12 #[.agg #[.string t340, .slice Ao10 t341.length co10, .slice Ao11 t344.length co11], .slice Ao12 t347.length co12, .slice Ao13 t350.length co13] ?_
         with_reducible refine (impl_Peak.calls k2 t340 _ _ t341 _ _ t344 _ _ t347 _ _ t350 t378 _ ?side1 ?side2 ?side3 ?side4 ?side5 ?side6 ?side7 ?side8 A64.out).mono ?_
         (case side1 => exact z_47 HO_354001.out)
         (case side2 => exact (Kd.R_reads' HO_354001.out).2.1)
         (case side3 => exact z_47 HO_354002.out)
         (case side4 => exact (Kd.R_reads' HO_354002.out).2.1)
         (case side5 => exact z_47 HO_4.out)
         (case side6 => exact (Kd.R_reads' HO_4.out).2.1)
         (case side7 => exact z_47 HO_5.out)
         (case side8 => exact (Kd.R_reads' HO_5.out).2.1)
         rintro e w83 ⟨rfl, hb⟩
         refine ⟨_, rfl, ?_⟩
         have n0_ := Aside0.mk (Kd.R_below (z_17 HO_4.out) hb)
         have n1_ := Aside0.mk (Kd.R_below (z_17 HO_5.out) hb)
         have n2_ := Aside0.mk (Kd.R_below (z_17 HO_6.out) hb)
         have n3_ := Aside0.mk (Kd.R_below (z_17 HO_354001.out) hb)
         have n4_ := Aside0.mk (Kd.R_below (z_17 HO_354002.out) hb)
         have n5_ := Aside0.mk (blk_below (g := gb353) (o := .cells #[.string t340, .slice Ao10 t341.length co10, .slice Ao11 t344.length co11] 27 (0, 0)) (z_7 BK353.out) hb)
         have n6_ := Aside0.mk (below_step (z_8 HB.out GE353.out) hb)
         clear HO_4
         clear HO_5
         clear HO_6
         clear HO_354001
         clear HO_354002
         clear BK353
         clear HB
         have HO_4 := n0_
         have HO_5 := n1_
         have HO_6 := n2_
         have HO_354001 := n3_
         have HO_354002 := n4_
         have BK353 := n5_
         have HB := n6_
         clear n0_ n1_ n2_ n3_ n4_ n5_ n6_
         (try clear hb)
         (try clear hb2)
         (try clear hk)
         (try clear hi)
         refine hK.out _ _ ⟨(blk_cell BK353.out 0).trans rfl, (blk_cell BK353.out 1).trans rfl, (blk_cell BK353.out 2).trans rfl⟩ (fun hHeld => ?_)
         clear hK K
         refine nm_ ?_
         refine go_ ?_ [5, 6, 7, 8, 2009, 2010, 2011, 2012, 2013, 2014, 2015, 2016, 2017, 18, 19, 2020, 2021, 2022, 23, 24] ?_
         refine done_ (done_of HT_.out (by kernel_rfl)) ?_
         try go_wp2
         go_ret
         exact ⟨z_9, z_8 HB.out GE353.out⟩
def laws_FnLaidOver.Pure : Prop := ∀ (l0 : List Int), l0.length ≤ maxLen → l0.length * 1 ≤ 140737488351232 → (∀ x ∈ l0, (Lit.int .u8 x).wf = true) → ∃ k, laws_FnLaidOver.f k l0 = some true
theorem laws_FnLaidOver.walk (P : laws_FnLaidOver.Pure) (a0 : Option Addr) (len0 cap0 : Nat) (z0 : List Int) (w : World) (w0 : (a0 = none ∧ len0 = 0 ∧ cap0 = 0 ∧ z0 = []) ∨ ∃ x, a0 = some x ∧ len0 ≤ cap0 ∧ cap0 ≤ maxLen ∧ z0.length = cap0 ∧ (∀ i, i < z0.length → w.cell? (x.add i) = some (.int .u8 (z0.getD i 0))) ∧ ∀ n ∈ z0, (Lit.int .u8 n).wf = true) (y0 : len0 * 1 ≤ 140737488351232) :
 Calls Try.prog 3 #[.slice a0 len0 cap0] w fun e w' => e = .returned (.bool true) ∧ Below w.heap.size w w' := by
 obtain ⟨l0, rfl, hr0, hm0, hw0, hc0⟩ := ReadsInt.ofRowC w0
 obtain ⟨k, h⟩ := P l0 hm0 y0 hw0
 refine (laws_FnLaidOver.calls k _ _ l0 true w (Kd.C_of_reads (d := (0 : Int)) (h1 := fun _ => rfl) hr0) hc0 h).mono ?_
 rintro e w' ⟨rfl, hd⟩
 exact ⟨rfl, hd⟩
end Go.Proofs.Ytdphpmejjlgpnaa.PFnLaidOver
