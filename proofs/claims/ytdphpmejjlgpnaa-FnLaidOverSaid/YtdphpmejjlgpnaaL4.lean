import Derived.Test.YtdphpmejjlgpnaaL0
import Derived.Test.YtdphpmejjlgpnaaL3
import Derived.Test.YtdphpmejjlgpnaaLZ
namespace Go.Proofs.Ytdphpmejjlgpnaa.PFnLaidOver
open Go.RowKit Go.Proofs.YtdphpmejjlgpnaaW.PrintWords Go.Proofs.YtdphpmejjlgpnaaW.PrintLast Go.Proofs.YtdphpmejjlgpnaaW.PrintMore
attribute [local go_sem] max2_int min2_int max_two min_two max_three min_three max_four min_four
def impl_opWords.f  : Option (List ByteArray) := some (([(⟨#[109, 111, 118]⟩ : ByteArray), (⟨#[99, 109, 112]⟩ : ByteArray), (⟨#[98, 105, 99]⟩ : ByteArray), (⟨#[98, 105, 115]⟩ : ByteArray), (⟨#[97, 100, 100]⟩ : ByteArray), (⟨#[115, 117, 98]⟩ : ByteArray), (⟨#[99, 108, 114]⟩ : ByteArray), (⟨#[105, 110, 99]⟩ : ByteArray), (⟨#[100, 101, 99]⟩ : ByteArray), (⟨#[110, 101, 103]⟩ : ByteArray), (⟨#[116, 115, 116]⟩ : ByteArray), (⟨#[97, 115, 114]⟩ : ByteArray), (⟨#[97, 115, 108]⟩ : ByteArray), (⟨#[106, 109, 112]⟩ : ByteArray), (⟨#[106, 115, 114]⟩ : ByteArray), (⟨#[114, 116, 115]⟩ : ByteArray), (⟨#[98, 114]⟩ : ByteArray), (⟨#[98, 110, 101]⟩ : ByteArray), (⟨#[98, 101, 113]⟩ : ByteArray), (⟨#[98, 103, 101]⟩ : ByteArray), (⟨#[98, 108, 116]⟩ : ByteArray), (⟨#[104, 97, 108, 116]⟩ : ByteArray), (⟨#[101, 109, 116]⟩ : ByteArray)] : List ByteArray))
set_option maxHeartbeats 8000000 in
set_option maxRecDepth 100000 in
theorem impl_opWords.calls  (r : List ByteArray) (w : World) (h : impl_opWords.f  = some r) :
 Calls Try.prog 69 #[] w fun e w' => ∃ v0_ : Value, e = .returned (v0_) ∧ Kd.R Kd.string 9 w' w.heap.size (fun _ => True) v0_ r ∧ Below w.heap.size w w' := by
 have HB := Aside0.mk (Below.refl w.heap.size w)
 have H : (some (([(⟨#[109, 111, 118]⟩ : ByteArray), (⟨#[99, 109, 112]⟩ : ByteArray), (⟨#[98, 105, 99]⟩ : ByteArray), (⟨#[98, 105, 115]⟩ : ByteArray), (⟨#[97, 100, 100]⟩ : ByteArray), (⟨#[115, 117, 98]⟩ : ByteArray), (⟨#[99, 108, 114]⟩ : ByteArray), (⟨#[105, 110, 99]⟩ : ByteArray), (⟨#[100, 101, 99]⟩ : ByteArray), (⟨#[110, 101, 103]⟩ : ByteArray), (⟨#[116, 115, 116]⟩ : ByteArray), (⟨#[97, 115, 114]⟩ : ByteArray), (⟨#[97, 115, 108]⟩ : ByteArray), (⟨#[106, 109, 112]⟩ : ByteArray), (⟨#[106, 115, 114]⟩ : ByteArray), (⟨#[114, 116, 115]⟩ : ByteArray), (⟨#[98, 114]⟩ : ByteArray), (⟨#[98, 110, 101]⟩ : ByteArray), (⟨#[98, 101, 113]⟩ : ByteArray), (⟨#[98, 103, 101]⟩ : ByteArray), (⟨#[98, 108, 116]⟩ : ByteArray), (⟨#[104, 97, 108, 116]⟩ : ByteArray), (⟨#[101, 109, 116]⟩ : ByteArray)] : List ByteArray))) = some r := h
 clear h
 obtain ⟨y197, hy197⟩ : ∃ y_ : List ByteArray, y_ = (([(⟨#[109, 111, 118]⟩ : ByteArray), (⟨#[99, 109, 112]⟩ : ByteArray), (⟨#[98, 105, 99]⟩ : ByteArray), (⟨#[98, 105, 115]⟩ : ByteArray), (⟨#[97, 100, 100]⟩ : ByteArray), (⟨#[115, 117, 98]⟩ : ByteArray), (⟨#[99, 108, 114]⟩ : ByteArray), (⟨#[105, 110, 99]⟩ : ByteArray), (⟨#[100, 101, 99]⟩ : ByteArray), (⟨#[110, 101, 103]⟩ : ByteArray), (⟨#[116, 115, 116]⟩ : ByteArray), (⟨#[97, 115, 114]⟩ : ByteArray), (⟨#[97, 115, 108]⟩ : ByteArray), (⟨#[106, 109, 112]⟩ : ByteArray), (⟨#[106, 115, 114]⟩ : ByteArray), (⟨#[114, 116, 115]⟩ : ByteArray), (⟨#[98, 114]⟩ : ByteArray), (⟨#[98, 110, 101]⟩ : ByteArray), (⟨#[98, 101, 113]⟩ : ByteArray), (⟨#[98, 103, 101]⟩ : ByteArray), (⟨#[98, 108, 116]⟩ : ByteArray), (⟨#[104, 97, 108, 116]⟩ : ByteArray), (⟨#[101, 109, 116]⟩ : ByteArray)] : List ByteArray)) := ⟨_, rfl⟩
 replace H : (some y197) = some r := by first | (rw [hy197]; with_reducible exact H) | (have H2_ := (Option.bind_some _ _).symm.trans H; rw [hy197]; with_reducible exact H2_) | (have H2_ := (Option.bind_some _ _).symm.trans H; with_reducible exact H2_) | with_reducible exact H | (rw [hy197]; exact H) | exact H
 have Ny197 := Aside0.mk hy197
 clear hy197
 obtain rfl := Option.some.inj H
 go_enter Try.func69, Try.ntmps69
 go_wp2_with (first | ((with_reducible refine gate_dst (N := 1) rfl ?_); refine Kd.R_lit Kd.string _ 9 ?hg (N := 1) ?hd (xs := ([(⟨#[109, 111, 118]⟩ : ByteArray), (⟨#[99, 109, 112]⟩ : ByteArray), (⟨#[98, 105, 99]⟩ : ByteArray), (⟨#[98, 105, 115]⟩ : ByteArray), (⟨#[97, 100, 100]⟩ : ByteArray), (⟨#[115, 117, 98]⟩ : ByteArray), (⟨#[99, 108, 114]⟩ : ByteArray), (⟨#[105, 110, 99]⟩ : ByteArray), (⟨#[100, 101, 99]⟩ : ByteArray), (⟨#[110, 101, 103]⟩ : ByteArray), (⟨#[116, 115, 116]⟩ : ByteArray), (⟨#[97, 115, 114]⟩ : ByteArray), (⟨#[97, 115, 108]⟩ : ByteArray), (⟨#[106, 109, 112]⟩ : ByteArray), (⟨#[106, 115, 114]⟩ : ByteArray), (⟨#[114, 116, 115]⟩ : ByteArray), (⟨#[98, 114]⟩ : ByteArray), (⟨#[98, 110, 101]⟩ : ByteArray), (⟨#[98, 101, 113]⟩ : ByteArray), (⟨#[98, 103, 101]⟩ : ByteArray), (⟨#[98, 108, 116]⟩ : ByteArray), (⟨#[104, 97, 108, 116]⟩ : ByteArray), (⟨#[101, 109, 116]⟩ : ByteArray)] : List ByteArray)) (inner := [.string (⟨#[109, 111, 118]⟩ : ByteArray), .string (⟨#[99, 109, 112]⟩ : ByteArray), .string (⟨#[98, 105, 99]⟩ : ByteArray), .string (⟨#[98, 105, 115]⟩ : ByteArray), .string (⟨#[97, 100, 100]⟩ : ByteArray), .string (⟨#[115, 117, 98]⟩ : ByteArray), .string (⟨#[99, 108, 114]⟩ : ByteArray), .string (⟨#[105, 110, 99]⟩ : ByteArray), .string (⟨#[100, 101, 99]⟩ : ByteArray), .string (⟨#[110, 101, 103]⟩ : ByteArray), .string (⟨#[116, 115, 116]⟩ : ByteArray), .string (⟨#[97, 115, 114]⟩ : ByteArray), .string (⟨#[97, 115, 108]⟩ : ByteArray), .string (⟨#[106, 109, 112]⟩ : ByteArray), .string (⟨#[106, 115, 114]⟩ : ByteArray), .string (⟨#[114, 116, 115]⟩ : ByteArray), .string (⟨#[98, 114]⟩ : ByteArray), .string (⟨#[98, 110, 101]⟩ : ByteArray), .string (⟨#[98, 101, 113]⟩ : ByteArray), .string (⟨#[98, 103, 101]⟩ : ByteArray), .string (⟨#[98, 108, 116]⟩ : ByteArray), .string (⟨#[104, 97, 108, 116]⟩ : ByteArray), .string (⟨#[101, 109, 116]⟩ : ByteArray)]) (ok := fun _ => True) (okp := fun _ => True) ?hr ?hp (fun _ hk => hk) trivial (Below.refl _ _) (Nat.le_refl _) (by simp) ?_; (case hd => rfl); (case hg => rfl); (case hr => first | (go_simp; done) | (go_simp; rfl)); (case hp => exact (Reps.one (show Kd.M Kd.string _ _ _ (⟨#[109, 111, 118]⟩ : ByteArray) [.string (⟨#[109, 111, 118]⟩ : ByteArray)] from rfl) (Reps.one (show Kd.M Kd.string _ _ _ (⟨#[99, 109, 112]⟩ : ByteArray) [.string (⟨#[99, 109, 112]⟩ : ByteArray)] from rfl) (Reps.one (show Kd.M Kd.string _ _ _ (⟨#[98, 105, 99]⟩ : ByteArray) [.string (⟨#[98, 105, 99]⟩ : ByteArray)] from rfl) (Reps.one (show Kd.M Kd.string _ _ _ (⟨#[98, 105, 115]⟩ : ByteArray) [.string (⟨#[98, 105, 115]⟩ : ByteArray)] from rfl) (Reps.one (show Kd.M Kd.string _ _ _ (⟨#[97, 100, 100]⟩ : ByteArray) [.string (⟨#[97, 100, 100]⟩ : ByteArray)] from rfl) (Reps.one (show Kd.M Kd.string _ _ _ (⟨#[115, 117, 98]⟩ : ByteArray) [.string (⟨#[115, 117, 98]⟩ : ByteArray)] from rfl) (Reps.one (show Kd.M Kd.string _ _ _ (⟨#[99, 108, 114]⟩ : ByteArray) [.string (⟨#[99, 108, 114]⟩ : ByteArray)] from rfl) (Reps.one (show Kd.M Kd.string _ _ _ (⟨#[105, 110, 99]⟩ : ByteArray) [.string (⟨#[105, 110, 99]⟩ : ByteArray)] from rfl) (Reps.one (show Kd.M Kd.string _ _ _ (⟨#[100, 101, 99]⟩ : ByteArray) [.string (⟨#[100, 101, 99]⟩ : ByteArray)] from rfl) (Reps.one (show Kd.M Kd.string _ _ _ (⟨#[110, 101, 103]⟩ : ByteArray) [.string (⟨#[110, 101, 103]⟩ : ByteArray)] from rfl) (Reps.one (show Kd.M Kd.string _ _ _ (⟨#[116, 115, 116]⟩ : ByteArray) [.string (⟨#[116, 115, 116]⟩ : ByteArray)] from rfl) (Reps.one (show Kd.M Kd.string _ _ _ (⟨#[97, 115, 114]⟩ : ByteArray) [.string (⟨#[97, 115, 114]⟩ : ByteArray)] from rfl) (Reps.one (show Kd.M Kd.string _ _ _ (⟨#[97, 115, 108]⟩ : ByteArray) [.string (⟨#[97, 115, 108]⟩ : ByteArray)] from rfl) (Reps.one (show Kd.M Kd.string _ _ _ (⟨#[106, 109, 112]⟩ : ByteArray) [.string (⟨#[106, 109, 112]⟩ : ByteArray)] from rfl) (Reps.one (show Kd.M Kd.string _ _ _ (⟨#[106, 115, 114]⟩ : ByteArray) [.string (⟨#[106, 115, 114]⟩ : ByteArray)] from rfl) (Reps.one (show Kd.M Kd.string _ _ _ (⟨#[114, 116, 115]⟩ : ByteArray) [.string (⟨#[114, 116, 115]⟩ : ByteArray)] from rfl) (Reps.one (show Kd.M Kd.string _ _ _ (⟨#[98, 114]⟩ : ByteArray) [.string (⟨#[98, 114]⟩ : ByteArray)] from rfl) (Reps.one (show Kd.M Kd.string _ _ _ (⟨#[98, 110, 101]⟩ : ByteArray) [.string (⟨#[98, 110, 101]⟩ : ByteArray)] from rfl) (Reps.one (show Kd.M Kd.string _ _ _ (⟨#[98, 101, 113]⟩ : ByteArray) [.string (⟨#[98, 101, 113]⟩ : ByteArray)] from rfl) (Reps.one (show Kd.M Kd.string _ _ _ (⟨#[98, 103, 101]⟩ : ByteArray) [.string (⟨#[98, 103, 101]⟩ : ByteArray)] from rfl) (Reps.one (show Kd.M Kd.string _ _ _ (⟨#[98, 108, 116]⟩ : ByteArray) [.string (⟨#[98, 108, 116]⟩ : ByteArray)] from rfl) (Reps.one (show Kd.M Kd.string _ _ _ (⟨#[104, 97, 108, 116]⟩ : ByteArray) [.string (⟨#[104, 97, 108, 116]⟩ : ByteArray)] from rfl) (Reps.one (show Kd.M Kd.string _ _ _ (⟨#[101, 109, 116]⟩ : ByteArray) [.string (⟨#[101, 109, 116]⟩ : ByteArray)] from rfl) (Reps.none _ _))))))))))))))))))))))))); intro v198 w1 ho2 hb hg_ hnew_; clear hg_ hnew_; (first | rw [← Ny197.out] at ho2 | (simp only [Int.reduceToNat] at ho2; rw [← Ny197.out] at ho2)); have n0_ := Aside0.mk (Kd.R_lower ho2 (below_size (z_4 HB.out))); have n1_ := Aside0.mk (below_step (z_4 HB.out) hb); clear HB; have HO199 := n0_; have HB := n1_; clear n0_ n1_; clear hb ho2))
 go_ret
 exact ⟨_, z_9, z_17 HO199.out, z_4 HB.out⟩
def impl_regWords.f  : Option (List ByteArray) := some (([(⟨#[114, 48]⟩ : ByteArray), (⟨#[114, 49]⟩ : ByteArray), (⟨#[114, 50]⟩ : ByteArray), (⟨#[114, 51]⟩ : ByteArray), (⟨#[114, 52]⟩ : ByteArray), (⟨#[114, 53]⟩ : ByteArray), (⟨#[115, 112]⟩ : ByteArray), (⟨#[112, 99]⟩ : ByteArray)] : List ByteArray))
set_option maxHeartbeats 8000000 in
set_option maxRecDepth 100000 in
theorem impl_regWords.calls  (r : List ByteArray) (w : World) (h : impl_regWords.f  = some r) :
 Calls Try.prog 70 #[] w fun e w' => ∃ v0_ : Value, e = .returned (v0_) ∧ Kd.R Kd.string 9 w' w.heap.size (fun _ => True) v0_ r ∧ Below w.heap.size w w' := by
 have HB := Aside0.mk (Below.refl w.heap.size w)
 have H : (some (([(⟨#[114, 48]⟩ : ByteArray), (⟨#[114, 49]⟩ : ByteArray), (⟨#[114, 50]⟩ : ByteArray), (⟨#[114, 51]⟩ : ByteArray), (⟨#[114, 52]⟩ : ByteArray), (⟨#[114, 53]⟩ : ByteArray), (⟨#[115, 112]⟩ : ByteArray), (⟨#[112, 99]⟩ : ByteArray)] : List ByteArray))) = some r := h
 clear h
 obtain ⟨y200, hy200⟩ : ∃ y_ : List ByteArray, y_ = (([(⟨#[114, 48]⟩ : ByteArray), (⟨#[114, 49]⟩ : ByteArray), (⟨#[114, 50]⟩ : ByteArray), (⟨#[114, 51]⟩ : ByteArray), (⟨#[114, 52]⟩ : ByteArray), (⟨#[114, 53]⟩ : ByteArray), (⟨#[115, 112]⟩ : ByteArray), (⟨#[112, 99]⟩ : ByteArray)] : List ByteArray)) := ⟨_, rfl⟩
 replace H : (some y200) = some r := by first | (rw [hy200]; with_reducible exact H) | (have H2_ := (Option.bind_some _ _).symm.trans H; rw [hy200]; with_reducible exact H2_) | (have H2_ := (Option.bind_some _ _).symm.trans H; with_reducible exact H2_) | with_reducible exact H | (rw [hy200]; exact H) | exact H
 have Ny200 := Aside0.mk hy200
 clear hy200
 obtain rfl := Option.some.inj H
 go_enter Try.func70, Try.ntmps70
 go_wp2_with (first | ((with_reducible refine gate_dst (N := 1) rfl ?_); refine Kd.R_lit Kd.string _ 9 ?hg (N := 1) ?hd (xs := ([(⟨#[114, 48]⟩ : ByteArray), (⟨#[114, 49]⟩ : ByteArray), (⟨#[114, 50]⟩ : ByteArray), (⟨#[114, 51]⟩ : ByteArray), (⟨#[114, 52]⟩ : ByteArray), (⟨#[114, 53]⟩ : ByteArray), (⟨#[115, 112]⟩ : ByteArray), (⟨#[112, 99]⟩ : ByteArray)] : List ByteArray)) (inner := [.string (⟨#[114, 48]⟩ : ByteArray), .string (⟨#[114, 49]⟩ : ByteArray), .string (⟨#[114, 50]⟩ : ByteArray), .string (⟨#[114, 51]⟩ : ByteArray), .string (⟨#[114, 52]⟩ : ByteArray), .string (⟨#[114, 53]⟩ : ByteArray), .string (⟨#[115, 112]⟩ : ByteArray), .string (⟨#[112, 99]⟩ : ByteArray)]) (ok := fun _ => True) (okp := fun _ => True) ?hr ?hp (fun _ hk => hk) trivial (Below.refl _ _) (Nat.le_refl _) (by simp) ?_; (case hd => rfl); (case hg => rfl); (case hr => first | (go_simp; done) | (go_simp; rfl)); (case hp => exact (Reps.one (show Kd.M Kd.string _ _ _ (⟨#[114, 48]⟩ : ByteArray) [.string (⟨#[114, 48]⟩ : ByteArray)] from rfl) (Reps.one (show Kd.M Kd.string _ _ _ (⟨#[114, 49]⟩ : ByteArray) [.string (⟨#[114, 49]⟩ : ByteArray)] from rfl) (Reps.one (show Kd.M Kd.string _ _ _ (⟨#[114, 50]⟩ : ByteArray) [.string (⟨#[114, 50]⟩ : ByteArray)] from rfl) (Reps.one (show Kd.M Kd.string _ _ _ (⟨#[114, 51]⟩ : ByteArray) [.string (⟨#[114, 51]⟩ : ByteArray)] from rfl) (Reps.one (show Kd.M Kd.string _ _ _ (⟨#[114, 52]⟩ : ByteArray) [.string (⟨#[114, 52]⟩ : ByteArray)] from rfl) (Reps.one (show Kd.M Kd.string _ _ _ (⟨#[114, 53]⟩ : ByteArray) [.string (⟨#[114, 53]⟩ : ByteArray)] from rfl) (Reps.one (show Kd.M Kd.string _ _ _ (⟨#[115, 112]⟩ : ByteArray) [.string (⟨#[115, 112]⟩ : ByteArray)] from rfl) (Reps.one (show Kd.M Kd.string _ _ _ (⟨#[112, 99]⟩ : ByteArray) [.string (⟨#[112, 99]⟩ : ByteArray)] from rfl) (Reps.none _ _)))))))))); intro v201 w1 ho2 hb hg_ hnew_; clear hg_ hnew_; (first | rw [← Ny200.out] at ho2 | (simp only [Int.reduceToNat] at ho2; rw [← Ny200.out] at ho2)); have n0_ := Aside0.mk (Kd.R_lower ho2 (below_size (z_4 HB.out))); have n1_ := Aside0.mk (below_step (z_4 HB.out) hb); clear HB; have HO202 := n0_; have HB := n1_; clear n0_ n1_; clear hb ho2))
 go_ret
 exact ⟨_, z_9, z_17 HO202.out, z_4 HB.out⟩
def impl_isKept.f (k : Nat) (a0 : ByteArray) : Option (Bool) := (impl_opWords.f).bind fun t203 => ((impl_placeIn.f k t203 a0).bind fun t206 => (if t206 ≥ 0 then (some true) else ((impl_regWords.f).bind fun t207 => ((impl_placeIn.f k t207 a0).bind fun t210 => (some (decide (t210 ≥ 0)))))))
theorem impl_isKept.mono : ∀ a0 k, LeO (impl_isKept.f k a0) (impl_isKept.f (k + 1) a0) := by
 intro a0 k
 unfold impl_isKept.f
 repeat' first
  | (with_reducible exact impl_placeIn.mono _ _ _)
  | (with_reducible exact LeO.refl _)
  | (with_reducible exact LeO.none _)
  | (with_reducible refine LeO.ite ?_ ?_)
  | (with_reducible refine LeO.bind ?_ (fun _ => ?_))
  | exact impl_placeIn.mono _ _ _
  | exact LeO.none _
  | refine LeO.ite ?_ ?_
  | refine LeO.bind ?_ (fun _ => ?_)
set_option maxHeartbeats 8000000 in
set_option maxRecDepth 100000 in
theorem impl_isKept.calls (k : Nat) (a0 : ByteArray) (r : Bool) (w : World) (h : impl_isKept.f k a0 = some r) :
 Calls Try.prog 62 #[.string a0] w fun e w' => e = .returned (.bool r) ∧ Below w.heap.size w w' := by
 have HB := Aside0.mk (Below.refl w.heap.size w)
 have H : ((impl_opWords.f).bind fun t203 => ((impl_placeIn.f k t203 a0).bind fun t206 => (if t206 ≥ 0 then (some true) else ((impl_regWords.f).bind fun t207 => ((impl_placeIn.f k t207 a0).bind fun t210 => (some (decide (t210 ≥ 0)))))))) = some r := h
 clear h
 replace H := Option.bind_eq_some_iff.mp H
 obtain ⟨t203, A20, H⟩ := H
 replace H : ((impl_placeIn.f k t203 a0).bind fun t206 => (if t206 ≥ 0 then (some true) else ((impl_regWords.f).bind fun t207 => ((impl_placeIn.f k t207 a0).bind fun t210 => (some (decide (t210 ≥ 0))))))) = some r := H
 have A2 := Aside0.mk A20
 clear A20
 replace H := Option.bind_eq_some_iff.mp H
 obtain ⟨t206, A30, H⟩ := H
 replace H : (if t206 ≥ 0 then (some true) else ((impl_regWords.f).bind fun t207 => ((impl_placeIn.f k t207 a0).bind fun t210 => (some (decide (t210 ≥ 0)))))) = some r := H
 have A3 := Aside0.mk A30
 clear A30
 by_cases c4 : t206 ≥ 0
 ·rw [if_pos c4] at H
  have c4b0 : decide (0 ≤ t206) = true := decide_eq_true c4
  clear c4
  obtain rfl := Option.some.inj H
  go_enter Try.func62, Try.ntmps62
  go_wp2_with (first | ((with_reducible refine gate_callee (f := 69) rfl ?_); refine gl_ 3 Try.func69 #[] ?_; (with_reducible refine (impl_opWords.calls  t203 _ A2.out).mono ?_); rintro e w5 ⟨v204, rfl, ho0, hb⟩; refine ⟨_, rfl, ?_⟩; have n0_ := Aside0.mk (Kd.R_lower ho0 (below_size (z_4 HB.out))); have n1_ := Aside0.mk (below_step (z_4 HB.out) hb); clear HB; have HO205 := n0_; have HB := n1_; clear n0_ n1_; (try clear hb); (try clear hb2); (try clear hk); (try clear hi); (try clear ho0); obtain ⟨Ao6, co6, eo6⟩ := Kd.R_slice HO205.out; subst eo6) | ((with_reducible refine gate_callee (f := 32) rfl ?_); refine gl_ 5 Try.func32 #[.slice Ao6 t203.length co6, .string a0] ?_; (with_reducible refine (impl_placeIn.calls k _ _ t203 a0 t206 _ ?side1 ?side2 A3.out).mono ?_); (case side1 => exact z_47 HO205.out); (case side2 => exact (Kd.R_reads' HO205.out).2.1); rintro e w' ⟨rfl, ⟨nd, rfl⟩⟩; refine ⟨_, rfl, ?_⟩))
  go_ret
  exact ⟨z_9, z_4 HB.out⟩
 ·rw [if_neg c4] at H
  have c4b0 : decide (0 ≤ t206) = false := decide_eq_false c4
  clear c4
  replace H := Option.bind_eq_some_iff.mp H
  obtain ⟨t207, A70, H⟩ := H
  replace H : ((impl_placeIn.f k t207 a0).bind fun t210 => (some (decide (t210 ≥ 0)))) = some r := H
  have A7 := Aside0.mk A70
  clear A70
  replace H := Option.bind_eq_some_iff.mp H
  obtain ⟨t210, A80, H⟩ := H
  replace H : (some (decide (t210 ≥ 0))) = some r := H
  have A8 := Aside0.mk A80
  clear A80
  obtain rfl := Option.some.inj H
  go_enter Try.func62, Try.ntmps62
  go_wp2_with (first | ((with_reducible refine gate_callee (f := 69) rfl ?_); refine gl_ 3 Try.func69 #[] ?_; (with_reducible refine (impl_opWords.calls  t203 _ A2.out).mono ?_); rintro e w9 ⟨v204, rfl, ho0, hb⟩; refine ⟨_, rfl, ?_⟩; have n0_ := Aside0.mk (Kd.R_lower ho0 (below_size (z_4 HB.out))); have n1_ := Aside0.mk (below_step (z_4 HB.out) hb); clear HB; have HO205 := n0_; have HB := n1_; clear n0_ n1_; (try clear hb); (try clear hb2); (try clear hk); (try clear hi); (try clear ho0); obtain ⟨Ao10, co10, eo10⟩ := Kd.R_slice HO205.out; subst eo10) | ((with_reducible refine gate_callee (f := 32) rfl ?_); refine gl_ 5 Try.func32 #[.slice Ao10 t203.length co10, .string a0] ?_; (with_reducible refine (impl_placeIn.calls k _ _ t203 a0 t206 _ ?side1 ?side2 A3.out).mono ?_); (case side1 => exact z_47 HO205.out); (case side2 => exact (Kd.R_reads' HO205.out).2.1); rintro e w' ⟨rfl, ⟨nd, rfl⟩⟩; (try clear A3); refine ⟨_, rfl, ?_⟩) | (go_at_call 70; (with_reducible refine (impl_regWords.calls  t207 _ A7.out).mono ?_); rintro e w11 ⟨v208, rfl, ho0, hb⟩; have n0_ := Aside0.mk (Kd.R_elder' (z_17 HO205.out) (Kd.R_base ho0) hb); have n1_ := Aside0.mk (Kd.R_lower (Kd.R_new' ho0 (Kd.R_lt (z_17 HO205.out))) (below_size (z_4 HB.out))); have n2_ := Aside0.mk (below_step (z_4 HB.out) hb); clear HO205; clear HB; have HO205 := n0_; have HO209 := n1_; have HB := n2_; clear n0_ n1_ n2_; (try clear hb); (try clear hb2); (try clear hk); (try clear hi); (try clear ho0); obtain ⟨Ao12, co12, eo12⟩ := Kd.R_slice HO209.out; subst eo12) | (go_at_call 32; (with_reducible refine (impl_placeIn.calls k _ _ t207 a0 t210 _ ?side1 ?side2 A8.out).mono ?_); (case side1 => exact z_47 HO209.out); (case side2 => exact (Kd.R_reads' HO209.out).2.1); rintro e w' ⟨rfl, ⟨nd, rfl⟩⟩))
  go_ret
  exact ⟨z_9, z_4 HB.out⟩
def impl_isName.f (k : Nat) (a0 : ByteArray) : Option (Bool) := (impl_hasForm.f k a0).bind fun t211 => (if t211 = true then ((impl_isKept.f k a0).bind fun t212 => (some (!t212))) else (some false))
theorem impl_isName.mono : ∀ a0 k, LeO (impl_isName.f k a0) (impl_isName.f (k + 1) a0) := by
 intro a0 k
 unfold impl_isName.f
 repeat' first
  | (with_reducible exact impl_hasForm.mono _ _)
  | (with_reducible exact impl_isKept.mono _ _)
  | (with_reducible exact LeO.refl _)
  | (with_reducible exact LeO.none _)
  | (with_reducible refine LeO.ite ?_ ?_)
  | (with_reducible refine LeO.bind ?_ (fun _ => ?_))
  | exact impl_hasForm.mono _ _
  | exact impl_isKept.mono _ _
  | exact LeO.none _
  | refine LeO.ite ?_ ?_
  | refine LeO.bind ?_ (fun _ => ?_)
set_option maxHeartbeats 8000000 in
set_option maxRecDepth 100000 in
theorem impl_isName.calls (k : Nat) (a0 : ByteArray) (r : Bool) (w : World) (h : impl_isName.f k a0 = some r) :
 Calls Try.prog 56 #[.string a0] w fun e w' => e = .returned (.bool r) ∧ Below w.heap.size w w' := by
 have HB := Aside0.mk (Below.refl w.heap.size w)
 have H : ((impl_hasForm.f k a0).bind fun t211 => (if t211 = true then ((impl_isKept.f k a0).bind fun t212 => (some (!t212))) else (some false))) = some r := h
 clear h
 replace H := Option.bind_eq_some_iff.mp H
 obtain ⟨t211, A20, H⟩ := H
 replace H : (if t211 = true then ((impl_isKept.f k a0).bind fun t212 => (some (!t212))) else (some false)) = some r := H
 have A2 := Aside0.mk A20
 clear A20
 by_cases c3 : t211 = true
 ·subst c3
  have H1 : ((impl_isKept.f k a0).bind fun t212 => (some (!t212))) = some r := by rw [if_pos rfl] at H; exact H
  clear H
  have H := H1
  clear H1
  replace H := Option.bind_eq_some_iff.mp H
  obtain ⟨t212, A40, H⟩ := H
  replace H : (some (!t212)) = some r := H
  have A4 := Aside0.mk A40
  clear A40
  obtain rfl := Option.some.inj H
  go_enter Try.func56, Try.ntmps56
  go_wp2_with (first | ((with_reducible refine gate_callee (f := 61) rfl ?_); refine gl_ 4 Try.func61 #[.string a0] ?_; (with_reducible refine (impl_hasForm.calls k a0 true _ A2.out).mono ?_); rintro e w' ⟨rfl, ⟨nd, rfl⟩⟩; refine ⟨_, rfl, ?_⟩) | (go_at_call 62; (with_reducible refine (impl_isKept.calls k a0 t212 _ A4.out).mono ?_); rintro e w5 ⟨rfl, hb⟩; have n0_ := Aside0.mk (below_step (z_4 HB.out) hb); clear HB; have HB := n0_; clear n0_; (try clear hb); (try clear hb2); (try clear hk); (try clear hi)))
  go_ret
  exact ⟨z_9, z_4 HB.out⟩
 ·replace c3 := Bool.eq_false_iff.mpr c3
  subst c3
  have H1 : (some false) = some r := by rw [if_neg (show ¬ (false = true) by decide)] at H; exact H
  clear H
  have H := H1
  clear H1
  obtain rfl := Option.some.inj H
  go_enter Try.func56, Try.ntmps56
  go_wp2_with (first | ((with_reducible refine gate_callee (f := 61) rfl ?_); refine gl_ 4 Try.func61 #[.string a0] ?_; (with_reducible refine (impl_hasForm.calls k a0 false _ A2.out).mono ?_); rintro e w' ⟨rfl, ⟨nd, rfl⟩⟩; refine ⟨_, rfl, ?_⟩))
  go_ret
  exact ⟨z_9, z_4 HB.out⟩
mutual
def impl_treeOk.j0 : Nat → Int → Bool → ByteArray → List ByteArray → List (S27) → Option (Bool)
 | 0, _, _, _, _, _ => none
 | k + 1, x1, x28, x214000, x214001, x214002 => if x28 = true then (some false) else (impl_treeOk.l0 k x1 x214001 (x214001.length : Int) 0 x214000 x214001 x214002)
def impl_treeOk.l0 : Nat → Int → List ByteArray → Int → Int → ByteArray → List ByteArray → List (S27) → Option (Bool)
 | 0, _, _, _, _, _, _, _ => none
 | k + 1, x1, x30, x31, x32, x214000, x214001, x214002 => if x32 < x31 then (if 0 ≤ x32 then (if x32 < (x30.length : Int) then ((impl_isName.f k (rdOf ByteArray.empty x30 x32)).bind fun t216 => (if t216 = true then (impl_treeOk.l0 k x1 x30 x31 (wrap64 (x32 + 1)) x214000 x214001 x214002) else (some false))) else (none)) else (none)) else (impl_treeOk.l1 k x1 x214002 (x214002.length : Int) 0)
def impl_treeOk.l1 : Nat → Int → List (S27) → Int → Int → Option (Bool)
 | 0, _, _, _, _ => none
 | k + 1, x1, x41, x42, x43 => if x43 < x42 then (if 0 ≤ x43 then (if x43 < (x41.length : Int) then ((impl_treeOk.f k ((rd_T27 x41 x43).f0) ((rd_T27 x41 x43).f1) ((rd_T27 x41 x43).f2) (wrap64 (x1 - 1))).bind fun t219 => (if t219 = true then (impl_treeOk.l1 k x1 x41 x42 (wrap64 (x43 + 1))) else (some false))) else (none)) else (none)) else (some true)
def impl_treeOk.f : Nat → ByteArray → List ByteArray → List (S27) → Int → Option (Bool)
 | 0, _, _, _, _ => none
 | k + 1, a0_0, l0_1, l0_2, a1 => if a1 < 1 then (impl_treeOk.j0 k a1 true a0_0 l0_1 l0_2) else ((impl_isName.f k a0_0).bind fun t214 => (if t214 = true then (if (l0_1.length : Int) > 6 then (impl_treeOk.j0 k a1 true a0_0 l0_1 l0_2) else (impl_treeOk.j0 k a1 (decide ((l0_2.length : Int) > 12)) a0_0 l0_1 l0_2)) else (impl_treeOk.j0 k a1 true a0_0 l0_1 l0_2)))
end
theorem impl_treeOk.mono_l : ∀ k, (∀ y0 y1 y2 y3, LeO (impl_treeOk.f k y0 y1 y2 y3) (impl_treeOk.f (k + 1) y0 y1 y2 y3)) ∧ (∀ y0 y1 y2 y3 y4, LeO (impl_treeOk.j0 k y0 y1 y2 y3 y4) (impl_treeOk.j0 (k + 1) y0 y1 y2 y3 y4)) ∧ (∀ y0 y1 y2 y3 y4 y5 y6, LeO (impl_treeOk.l0 k y0 y1 y2 y3 y4 y5 y6) (impl_treeOk.l0 (k + 1) y0 y1 y2 y3 y4 y5 y6)) ∧ (∀ y0 y1 y2 y3, LeO (impl_treeOk.l1 k y0 y1 y2 y3) (impl_treeOk.l1 (k + 1) y0 y1 y2 y3))
 | 0 => ⟨fun _ _ _ _ r h => by simp [impl_treeOk.f] at h, fun _ _ _ _ _ r h => by simp [impl_treeOk.j0] at h, fun _ _ _ _ _ _ _ r h => by simp [impl_treeOk.l0] at h, fun _ _ _ _ r h => by simp [impl_treeOk.l1] at h⟩
 | k + 1 => by
  obtain ⟨ih0, ih1, ih2, ih3⟩ := impl_treeOk.mono_l k
  refine ⟨?_, ?_, ?_, ?_⟩
  ·intro y0 y1 y2 y3
   unfold impl_treeOk.f
   repeat' first
   | (with_reducible exact ih0 _ _ _ _)
   | (with_reducible exact ih1 _ _ _ _ _)
   | (with_reducible exact ih2 _ _ _ _ _ _ _)
   | (with_reducible exact ih3 _ _ _ _)
   | (with_reducible exact impl_isName.mono _ _)
   | (with_reducible exact LeO.refl _)
   | (with_reducible exact LeO.none _)
   | (with_reducible refine LeO.ite ?_ ?_)
   | (with_reducible refine LeO.bind ?_ (fun _ => ?_))
   | exact ih0 _ _ _ _
   | exact ih1 _ _ _ _ _
   | exact ih2 _ _ _ _ _ _ _
   | exact ih3 _ _ _ _
   | exact impl_isName.mono _ _
   | exact LeO.none _
   | refine LeO.ite ?_ ?_
   | refine LeO.bind ?_ (fun _ => ?_)
  ·intro y0 y1 y2 y3 y4
   unfold impl_treeOk.j0
   repeat' first
   | (with_reducible exact ih0 _ _ _ _)
   | (with_reducible exact ih1 _ _ _ _ _)
   | (with_reducible exact ih2 _ _ _ _ _ _ _)
   | (with_reducible exact ih3 _ _ _ _)
   | (with_reducible exact impl_isName.mono _ _)
   | (with_reducible exact LeO.refl _)
   | (with_reducible exact LeO.none _)
   | (with_reducible refine LeO.ite ?_ ?_)
   | (with_reducible refine LeO.bind ?_ (fun _ => ?_))
   | exact ih0 _ _ _ _
   | exact ih1 _ _ _ _ _
   | exact ih2 _ _ _ _ _ _ _
   | exact ih3 _ _ _ _
   | exact impl_isName.mono _ _
   | exact LeO.none _
   | refine LeO.ite ?_ ?_
   | refine LeO.bind ?_ (fun _ => ?_)
  ·intro y0 y1 y2 y3 y4 y5 y6
   unfold impl_treeOk.l0
   repeat' first
   | (with_reducible exact ih0 _ _ _ _)
   | (with_reducible exact ih1 _ _ _ _ _)
   | (with_reducible exact ih2 _ _ _ _ _ _ _)
   | (with_reducible exact ih3 _ _ _ _)
   | (with_reducible exact impl_isName.mono _ _)
   | (with_reducible exact LeO.refl _)
   | (with_reducible exact LeO.none _)
   | (with_reducible refine LeO.ite ?_ ?_)
   | (with_reducible refine LeO.bind ?_ (fun _ => ?_))
   | exact ih0 _ _ _ _
   | exact ih1 _ _ _ _ _
   | exact ih2 _ _ _ _ _ _ _
   | exact ih3 _ _ _ _
   | exact impl_isName.mono _ _
   | exact LeO.none _
   | refine LeO.ite ?_ ?_
   | refine LeO.bind ?_ (fun _ => ?_)
  ·intro y0 y1 y2 y3
   unfold impl_treeOk.l1
   repeat' first
   | (with_reducible exact ih0 _ _ _ _)
   | (with_reducible exact ih1 _ _ _ _ _)
   | (with_reducible exact ih2 _ _ _ _ _ _ _)
   | (with_reducible exact ih3 _ _ _ _)
   | (with_reducible exact impl_isName.mono _ _)
   | (with_reducible exact LeO.refl _)
   | (with_reducible exact LeO.none _)
   | (with_reducible refine LeO.ite ?_ ?_)
   | (with_reducible refine LeO.bind ?_ (fun _ => ?_))
   | exact ih0 _ _ _ _
   | exact ih1 _ _ _ _ _
   | exact ih2 _ _ _ _ _ _ _
   | exact ih3 _ _ _ _
   | exact impl_isName.mono _ _
   | exact LeO.none _
   | refine LeO.ite ?_ ?_
   | refine LeO.bind ?_ (fun _ => ?_)
theorem impl_treeOk.mono : ∀ a0 a1 a2 a3 k, LeO (impl_treeOk.f k a0 a1 a2 a3) (impl_treeOk.f (k + 1) a0 a1 a2 a3) := by
 intro a0 a1 a2 a3 k
 obtain ⟨ih0, ih1, ih2, ih3⟩ := impl_treeOk.mono_l k
 exact ih0 a0 a1 a2 a3
set_option maxHeartbeats 8000000 in
set_option maxRecDepth 100000 in
theorem impl_treeOk.calls (k : Nat) : ∀ (a0_0 : ByteArray) (A0_1 : Option Addr) (c0_1 : Nat) (l0_1 : List ByteArray) (A0_2 : Option Addr) (c0_2 : Nat) (l0_2 : List (S27)) (a1 : Int) (r : Bool) (w : World) (hr0_1 : Kd.C Kd.string w A0_1 l0_1.length l0_1) (hc0_1 : l0_1.length ≤ c0_1) (hr0_2 : Kd.C k27 w A0_2 l0_2.length l0_2) (hc0_2 : l0_2.length ≤ c0_2) (h : impl_treeOk.f k a0_0 l0_1 l0_2 a1 = some r),
 Calls Try.prog 50 #[.agg #[.string a0_0, .slice A0_1 l0_1.length c0_1, .slice A0_2 l0_2.length c0_2], .int .i64 a1] w fun e w' => e = .returned (.bool r) ∧ Below w.heap.size w w' := by
 induction k using Nat.strongRecOn with
 | _ k ih =>
 intro a0_0 A0_1 c0_1 l0_1 A0_2 c0_2 l0_2 a1 r w hr0_1 hc0_1 hr0_2 hc0_2 h
 cases k with
 | zero => exact absurd h (by simp [impl_treeOk.f])
 | succ k =>
 simp only [impl_treeOk.f] at h
 have hu27 := Try.underlying27
 have HR0_1 := Aside0.mk hr0_1
 have HC0_1 := Aside0.mk hc0_1
 clear hr0_1 hc0_1
 have HR0_2 := Aside0.mk hr0_2
 have HC0_2 := Aside0.mk hc0_2
 clear hr0_2 hc0_2
 have HB := Aside0.mk (Below.refl w.heap.size w)
 have H : (if a1 < 1 then (impl_treeOk.j0 k a1 true a0_0 l0_1 l0_2) else ((impl_isName.f k a0_0).bind fun t214 => (if t214 = true then (if (l0_1.length : Int) > 6 then (impl_treeOk.j0 k a1 true a0_0 l0_1 l0_2) else (impl_treeOk.j0 k a1 (decide ((l0_2.length : Int) > 12)) a0_0 l0_1 l0_2)) else (impl_treeOk.j0 k a1 true a0_0 l0_1 l0_2)))) = some r := h
 clear h
 have HC3 := Aside0.mk H
 clear H
 go_enter Try.func50, Try.ntmps50
 go_upto_region 1 with (first | ((with_reducible refine gate_dst (N := 2) rfl ?_); (try (refine gate_guard (by rfl) ?_; dsimp only)); refine box_event ?hg (N := 2) ?hd (cs := #[.string a0_0, .slice A0_1 l0_1.length c0_1, .slice A0_2 l0_2.length c0_2]) (t := 27) ?hr ?_; (case hd => rfl); (case hg => rfl); (case hr => first | (go_simp; done) | (go_simp; rfl)); intro gb213 hg w4 hbox hb; have n0_ := Aside0.mk (below_step (z_4 HB.out) hb); have n1_ := Aside0.mk (hbox); have n2_ := Aside0.mk ((z_6 HB.out : w.heap.size ≤ gb213)); have n3_ := Aside0.mk ((z_6 HB.out : w.heap.size ≤ gb213)); clear HB; have HB := n0_; have BK213 := n1_; have GW213 := n2_; have GE213 := n3_; clear n0_ n1_ n2_ n3_; clear hb hbox hg))
 (try simp only [Act.put, List.setIfInBounds_toArray, List.set_cons_zero, List.set_cons_succ])
 go_cut [28] (fun v28 wc => ∃ (kq : Nat) (x28_2 : Bool), v28 = .bool x28_2 ∧ Aside0 (impl_treeOk.j0 kq a1 x28_2 a0_0 l0_1 l0_2 = some r) ∧ Aside0 (kq ≤ k) ∧ Aside0 (wc.heap[gb213]? = some (.cells #[.string a0_0, (.slice A0_1 l0_1.length c0_1), (.slice A0_2 l0_2.length c0_2)] 27 (0, 0))) ∧ Aside0 (Below w.heap.size w wc))
 case first =>
  have H := HC3.out
  clear HC3
  by_cases c5 : a1 < 1
  ·rw [if_pos c5] at H
   have c5b0 : decide (a1 < 1) = true := decide_eq_true c5
   clear c5
   (first | rw [c5b0] | (simp only [i64_w, i32_w]; rw [c5b0]) | skip)
   have H' := Aside0.mk H
   clear H
   go_wp2
   go_meet
   case rel => exact ⟨_, (true), z_3, H', ⟨z_57⟩, ⟨z_7 BK213.out⟩, ⟨z_8 HB.out GE213.out⟩⟩
  ·rw [if_neg c5] at H
   have c5b0 : decide (a1 < 1) = false := decide_eq_false c5
   clear c5
   (first | rw [c5b0] | (simp only [i64_w, i32_w]; rw [c5b0]) | skip)
   replace H := Option.bind_eq_some_iff.mp H
   obtain ⟨t214, A60, H⟩ := H
   replace H : (if t214 = true then (if (l0_1.length : Int) > 6 then (impl_treeOk.j0 k a1 true a0_0 l0_1 l0_2) else (impl_treeOk.j0 k a1 (decide ((l0_2.length : Int) > 12)) a0_0 l0_1 l0_2)) else (impl_treeOk.j0 k a1 true a0_0 l0_1 l0_2)) = some r := H
   have A6 := Aside0.mk A60
   clear A60
   by_cases c7 : t214 = true
   ·subst c7
    have H1 : (if (l0_1.length : Int) > 6 then (impl_treeOk.j0 k a1 true a0_0 l0_1 l0_2) else (impl_treeOk.j0 k a1 (decide ((l0_2.length : Int) > 12)) a0_0 l0_1 l0_2)) = some r := by rw [if_pos rfl] at H; exact H
    clear H
    have H := H1
    clear H1
    by_cases c8 : (l0_1.length : Int) > 6
    ·rw [if_pos c8] at H
     have c8b0 : decide (6 < (l0_1.length : Int)) = true := decide_eq_true c8
     have c8b1 : decide (6 < l0_1.length) = true := decide_eq_true (by omega)
     clear c8
     have H' := Aside0.mk H
     clear H
     have hcz9_0 : w4.cell? ⟨gb213, 0, none⟩ = some (.string a0_0) := (blk_cell BK213.out 0).trans rfl
     have hcz9_1 : w4.cell? ⟨gb213, 1, none⟩ = some (.slice A0_1 l0_1.length c0_1) := (blk_cell BK213.out 1).trans rfl
     have hcz9_2 : w4.cell? ⟨gb213, 2, none⟩ = some (.slice A0_2 l0_2.length c0_2) := (blk_cell BK213.out 2).trans rfl
     have hfz9_0 := blk_frozen BK213.out 0
     have hfz9_1 := blk_frozen BK213.out 1
     have hfz9_2 := blk_frozen BK213.out 2
     go_wp2_with (first | (go_at_call 56; (with_reducible refine (impl_isName.calls k a0_0 true _ A6.out).mono ?_); rintro e w10 ⟨rfl, hb⟩; have n0_ := Aside0.mk (blk_below (g := gb213) (o := .cells #[.string a0_0, .slice A0_1 l0_1.length c0_1, .slice A0_2 l0_2.length c0_2] 27 (0, 0)) (z_7 BK213.out) hb); have n1_ := Aside0.mk (below_step (z_8 HB.out GE213.out) hb); clear BK213; clear HB; have BK213 := n0_; have HB := n1_; clear n0_ n1_; (try clear hb); (try clear hb2); (try clear hk); (try clear hi); have hcz11_0 : w10.cell? ⟨gb213, 0, none⟩ = some (.string a0_0) := (blk_cell BK213.out 0).trans rfl; have hcz11_1 : w10.cell? ⟨gb213, 1, none⟩ = some (.slice A0_1 l0_1.length c0_1) := (blk_cell BK213.out 1).trans rfl; have hcz11_2 : w10.cell? ⟨gb213, 2, none⟩ = some (.slice A0_2 l0_2.length c0_2) := (blk_cell BK213.out 2).trans rfl; have hfz11_0 := blk_frozen BK213.out 0; have hfz11_1 := blk_frozen BK213.out 1; have hfz11_2 := blk_frozen BK213.out 2))
     go_meet
     case rel => exact ⟨_, (true), z_3, H', ⟨z_57⟩, ⟨z_7 BK213.out⟩, ⟨z_8 HB.out GE213.out⟩⟩
    ·rw [if_neg c8] at H
     have c8b0 : decide (6 < (l0_1.length : Int)) = false := decide_eq_false c8
     have c8b1 : decide (6 < l0_1.length) = false := decide_eq_false (by omega)
     clear c8
     have H' := Aside0.mk H
     clear H
     have hcz12_0 : w4.cell? ⟨gb213, 0, none⟩ = some (.string a0_0) := (blk_cell BK213.out 0).trans rfl
     have hcz12_1 : w4.cell? ⟨gb213, 1, none⟩ = some (.slice A0_1 l0_1.length c0_1) := (blk_cell BK213.out 1).trans rfl
     have hcz12_2 : w4.cell? ⟨gb213, 2, none⟩ = some (.slice A0_2 l0_2.length c0_2) := (blk_cell BK213.out 2).trans rfl
     have hfz12_0 := blk_frozen BK213.out 0
     have hfz12_1 := blk_frozen BK213.out 1
     have hfz12_2 := blk_frozen BK213.out 2
     go_wp2_with (first | (go_at_call 56; (with_reducible refine (impl_isName.calls k a0_0 true _ A6.out).mono ?_); rintro e w13 ⟨rfl, hb⟩; have n0_ := Aside0.mk (blk_below (g := gb213) (o := .cells #[.string a0_0, .slice A0_1 l0_1.length c0_1, .slice A0_2 l0_2.length c0_2] 27 (0, 0)) (z_7 BK213.out) hb); have n1_ := Aside0.mk (below_step (z_8 HB.out GE213.out) hb); clear BK213; clear HB; have BK213 := n0_; have HB := n1_; clear n0_ n1_; (try clear hb); (try clear hb2); (try clear hk); (try clear hi); have hcz14_0 : w13.cell? ⟨gb213, 0, none⟩ = some (.string a0_0) := (blk_cell BK213.out 0).trans rfl; have hcz14_1 : w13.cell? ⟨gb213, 1, none⟩ = some (.slice A0_1 l0_1.length c0_1) := (blk_cell BK213.out 1).trans rfl; have hcz14_2 : w13.cell? ⟨gb213, 2, none⟩ = some (.slice A0_2 l0_2.length c0_2) := (blk_cell BK213.out 2).trans rfl; have hfz14_0 := blk_frozen BK213.out 0; have hfz14_1 := blk_frozen BK213.out 1; have hfz14_2 := blk_frozen BK213.out 2))
     go_meet
     case rel => exact ⟨_, (decide ((l0_2.length : Int) > 12)), z_3, H', ⟨z_57⟩, ⟨z_7 BK213.out⟩, ⟨z_8 HB.out GE213.out⟩⟩
   ·replace c7 := Bool.eq_false_iff.mpr c7
    subst c7
    have H1 : (impl_treeOk.j0 k a1 true a0_0 l0_1 l0_2) = some r := by rw [if_neg (show ¬ (false = true) by decide)] at H; exact H
    clear H
    have H := H1
    clear H1
    have H' := Aside0.mk H
    clear H
    have hcz15_0 : w4.cell? ⟨gb213, 0, none⟩ = some (.string a0_0) := (blk_cell BK213.out 0).trans rfl
    have hcz15_1 : w4.cell? ⟨gb213, 1, none⟩ = some (.slice A0_1 l0_1.length c0_1) := (blk_cell BK213.out 1).trans rfl
    have hcz15_2 : w4.cell? ⟨gb213, 2, none⟩ = some (.slice A0_2 l0_2.length c0_2) := (blk_cell BK213.out 2).trans rfl
    have hfz15_0 := blk_frozen BK213.out 0
    have hfz15_1 := blk_frozen BK213.out 1
    have hfz15_2 := blk_frozen BK213.out 2
    go_wp2_with (first | (go_at_call 56; (with_reducible refine (impl_isName.calls k a0_0 false _ A6.out).mono ?_); rintro e w16 ⟨rfl, hb⟩; have n0_ := Aside0.mk (blk_below (g := gb213) (o := .cells #[.string a0_0, .slice A0_1 l0_1.length c0_1, .slice A0_2 l0_2.length c0_2] 27 (0, 0)) (z_7 BK213.out) hb); have n1_ := Aside0.mk (below_step (z_8 HB.out GE213.out) hb); clear BK213; clear HB; have BK213 := n0_; have HB := n1_; clear n0_ n1_; (try clear hb); (try clear hb2); (try clear hk); (try clear hi)))
    go_meet
    case rel => exact ⟨_, (true), z_3, H', ⟨z_57⟩, ⟨z_7 BK213.out⟩, ⟨z_8 HB.out GE213.out⟩⟩
 case rest =>
  clear HC3
  try clear p2
  try clear c5
  try clear c5b0
  try clear c7
  try clear c8
  try clear c8b0
  try clear c8b1
  try clear hcz11_0
  try clear hcz11_1
  try clear hcz11_2
  try clear hcz12_0
  try clear hcz12_1
  try clear hcz12_2
  try clear hcz14_0
  try clear hcz14_1
  try clear hcz14_2
  try clear hcz15_0
  try clear hcz15_1
  try clear hcz15_2
  try clear hcz9_0
  try clear hcz9_1
  try clear hcz9_2
  try clear hfz11_0
  try clear hfz11_1
  try clear hfz11_2
  try clear hfz12_0
  try clear hfz12_1
  try clear hfz12_2
  try clear hfz14_0
  try clear hfz14_1
  try clear hfz14_2
  try clear hfz15_0
  try clear hfz15_1
  try clear hfz15_2
  try clear hfz9_0
  try clear hfz9_1
  try clear hfz9_2
  obtain ⟨kq, x28_2, rfl, HA, HJ2, BK213, HB⟩ := hcut
  cases kq with
  | zero => exact absurd HA.out (by simp [impl_treeOk.j0])
  | succ kj2 =>
   have H := HA.out
   clear HA
   simp only [impl_treeOk.j0] at H
   by_cases c17 : x28_2 = true
   ·subst c17
    have H1 : (some false) = some r := by rw [if_pos rfl] at H; exact H
    clear H
    have H := H1
    clear H1
    obtain rfl := Option.some.inj H
    go_wp2
    go_ret
    exact ⟨z_9, z_8 HB.out GE213.out⟩
   ·replace c17 := Bool.eq_false_iff.mpr c17
    subst c17
    have H1 : (impl_treeOk.l0 kj2 a1 l0_1 (l0_1.length : Int) 0 a0_0 l0_1 l0_2) = some r := by rw [if_neg (show ¬ (false = true) by decide)] at H; exact H
    clear H
    have H := H1
    clear H1
    have H' := Aside0.mk H
    clear H
    have hcz18_0 : wc.cell? ⟨gb213, 0, none⟩ = some (.string a0_0) := (blk_cell BK213.out 0).trans rfl
    have hcz18_1 : wc.cell? ⟨gb213, 1, none⟩ = some (.slice A0_1 l0_1.length c0_1) := (blk_cell BK213.out 1).trans rfl
    have hcz18_2 : wc.cell? ⟨gb213, 2, none⟩ = some (.slice A0_2 l0_2.length c0_2) := (blk_cell BK213.out 2).trans rfl
    have hfz18_0 := blk_frozen BK213.out 0
    have hfz18_1 := blk_frozen BK213.out 1
    have hfz18_2 := blk_frozen BK213.out 2
    go_wp2
    go_loopg [32] kj2 (fun kq v32 w' => ∃ (x32_2 : Int), v32 = .int .i64 x32_2 ∧ Aside0 (impl_treeOk.l0 kq a1 l0_1 (l0_1.length : Int) x32_2 a0_0 l0_1 l0_2 = some r) ∧ Aside0 (kq ≤ kj2) ∧ Aside0 (w'.heap[gb213]? = some (.cells #[.string a0_0, (.slice A0_1 l0_1.length c0_1), (.slice A0_2 l0_2.length c0_2)] 27 (0, 0))) ∧ Aside0 (Below w.heap.size w w'))
    case atStart => exact ⟨(0), z_3, H', ⟨Nat.le_refl _⟩, ⟨z_7 BK213.out⟩, ⟨z_8 HB.out GE213.out⟩⟩
    case round =>
     clear H'
     try clear c1
     try clear p2
     try clear c5
     try clear c5b0
     try clear c7
     try clear c8
     try clear c8b0
     try clear c8b1
     try clear c17
     try clear hcz11_0
     try clear hcz11_1
     try clear hcz11_2
     try clear hcz12_0
     try clear hcz12_1
     try clear hcz12_2
     try clear hcz14_0
     try clear hcz14_1
     try clear hcz14_2
     try clear hcz15_0
     try clear hcz15_1
     try clear hcz15_2
     try clear hcz18_0
     try clear hcz18_1
     try clear hcz18_2
     try clear hcz9_0
     try clear hcz9_1
     try clear hcz9_2
     try clear hfz11_0
     try clear hfz11_1
     try clear hfz11_2
     try clear hfz12_0
     try clear hfz12_1
     try clear hfz12_2
     try clear hfz14_0
     try clear hfz14_1
     try clear hfz14_2
     try clear hfz15_0
     try clear hfz15_1
     try clear hfz15_2
     try clear hfz18_0
     try clear hfz18_1
     try clear hfz18_2
     try clear hfz9_0
     try clear hfz9_1
     try clear hfz9_2
     try clear p2
     obtain ⟨x32_2, rfl, HA, HK2, BK213, HB⟩ := hrel
     cases gk with
     | zero => exact absurd HA.out (by simp [impl_treeOk.l0])
     | succ k2 =>
      have H := HA.out
      clear HA
      simp only [impl_treeOk.l0] at H
      by_cases c19 : x32_2 < (l0_1.length : Int)
      ·rw [if_pos c19] at H
       have c19b0 : decide (x32_2 < (l0_1.length : Int)) = true := decide_eq_true c19
       clear c19
       by_cases c20 : 0 ≤ x32_2
       ·rw [if_pos c20] at H
        have c20b0 : decide (0 ≤ x32_2) = true := decide_eq_true c20
        clear c20
        by_cases c21 : x32_2 < (l0_1.length : Int)
        ·rw [if_pos c21] at H
         have c21b0 : decide (x32_2 < (l0_1.length : Int)) = true := decide_eq_true c21
         clear c21
         replace H := Option.bind_eq_some_iff.mp H
         obtain ⟨t216, A220, H⟩ := H
         replace H : (if t216 = true then (impl_treeOk.l0 k2 a1 l0_1 (l0_1.length : Int) (wrap64 (x32_2 + 1)) a0_0 l0_1 l0_2) else (some false)) = some r := H
         have A22 := Aside0.mk A220
         clear A220
         by_cases c23 : t216 = true
         ·subst c23
          have H1 : (impl_treeOk.l0 k2 a1 l0_1 (l0_1.length : Int) (wrap64 (x32_2 + 1)) a0_0 l0_1 l0_2) = some r := by rw [if_pos rfl] at H; exact H
          clear H
          have H := H1
          clear H1
          have H' := Aside0.mk H
          clear H
          have p215 : 0 ≤ (x32_2 : Int) := of_decide_eq_true z_5
          have q215 : x32_2 < (l0_1.length : Int) := of_decide_eq_true z_5
          obtain ⟨ad215, e215, hx215_0⟩ := Kd.at_string HR0_1.out x32_2 p215 q215
          cases e215
          replace hx215_0 := (HB.out.cell (World.block_lt_of_cell? w _ hx215_0)).trans hx215_0
          replace p215 := eq_true p215
          replace q215 := eq_true q215
          go_wp2_with (first | ((with_reducible refine gate_callee (f := 56) rfl ?_); refine gl_ 37 Try.func56 #[.string (rdOf ByteArray.empty l0_1 x32_2)] ?_; (with_reducible refine (impl_isName.calls k2 (rdOf ByteArray.empty l0_1 x32_2) true _ A22.out).mono ?_); rintro e w24 ⟨rfl, hb⟩; refine ⟨_, rfl, ?_⟩; have n0_ := Aside0.mk (blk_below (g := gb213) (o := .cells #[.string a0_0, .slice (some ad215) l0_1.length c0_1, .slice A0_2 l0_2.length c0_2] 27 (0, 0)) (z_7 BK213.out) hb); have n1_ := Aside0.mk (below_step (z_8 HB.out GE213.out) hb); clear BK213; clear HB; have BK213 := n0_; have HB := n1_; clear n0_ n1_; (try clear hb); (try clear hb2); (try clear hk); (try clear hi)))
          go_roundg k2
          case measure => have := HJ2.out; have := HK2.out; omega
          case rel => exact ⟨(wrap64 (x32_2 + 1)), z_3, H', ⟨z_36 HJ2.out HK2.out⟩, ⟨z_7 BK213.out⟩, ⟨z_8 HB.out GE213.out⟩⟩
         ·replace c23 := Bool.eq_false_iff.mpr c23
          subst c23
          have H1 : (some false) = some r := by rw [if_neg (show ¬ (false = true) by decide)] at H; exact H
          clear H
          have H := H1
          clear H1
          obtain rfl := Option.some.inj H
          have p215 : 0 ≤ (x32_2 : Int) := of_decide_eq_true z_5
          have q215 : x32_2 < (l0_1.length : Int) := of_decide_eq_true z_5
          obtain ⟨ad215, e215, hx215_0⟩ := Kd.at_string HR0_1.out x32_2 p215 q215
          cases e215
          replace hx215_0 := (HB.out.cell (World.block_lt_of_cell? w _ hx215_0)).trans hx215_0
          replace p215 := eq_true p215
          replace q215 := eq_true q215
          go_wp2_with (first | ((with_reducible refine gate_callee (f := 56) rfl ?_); refine gl_ 37 Try.func56 #[.string (rdOf ByteArray.empty l0_1 x32_2)] ?_; (with_reducible refine (impl_isName.calls k2 (rdOf ByteArray.empty l0_1 x32_2) false _ A22.out).mono ?_); rintro e w25 ⟨rfl, hb⟩; refine ⟨_, rfl, ?_⟩; have n0_ := Aside0.mk (blk_below (g := gb213) (o := .cells #[.string a0_0, .slice (some ad215) l0_1.length c0_1, .slice A0_2 l0_2.length c0_2] 27 (0, 0)) (z_7 BK213.out) hb); have n1_ := Aside0.mk (below_step (z_8 HB.out GE213.out) hb); clear BK213; clear HB; have BK213 := n0_; have HB := n1_; clear n0_ n1_; (try clear hb); (try clear hb2); (try clear hk); (try clear hi)))
          go_ret
          exact ⟨z_9, z_8 HB.out GE213.out⟩
        ·rw [if_neg c21] at H
         exact absurd H (by simp)
       ·rw [if_neg c20] at H
        exact absurd H (by simp)
      ·rw [if_neg c19] at H
       have c19b0 : decide (x32_2 < (l0_1.length : Int)) = false := decide_eq_false c19
       clear c19
       have H' := Aside0.mk H
       clear H
       have hcz26_0 : wr.cell? ⟨gb213, 0, none⟩ = some (.string a0_0) := (blk_cell BK213.out 0).trans rfl
       have hcz26_1 : wr.cell? ⟨gb213, 1, none⟩ = some (.slice A0_1 l0_1.length c0_1) := (blk_cell BK213.out 1).trans rfl
       have hcz26_2 : wr.cell? ⟨gb213, 2, none⟩ = some (.slice A0_2 l0_2.length c0_2) := (blk_cell BK213.out 2).trans rfl
       have hfz26_0 := blk_frozen BK213.out 0
       have hfz26_1 := blk_frozen BK213.out 1
       have hfz26_2 := blk_frozen BK213.out 2
       go_wp2
       go_loopg [43] k2 (fun kq v43 w' => ∃ (x43_3 : Int), v43 = .int .i64 x43_3 ∧ Aside0 (impl_treeOk.l1 kq a1 l0_2 (l0_2.length : Int) x43_3 = some r) ∧ Aside0 (kq ≤ k2) ∧ Aside0 (w'.heap[gb213]? = some (.cells #[.string a0_0, (.slice A0_1 l0_1.length c0_1), (.slice A0_2 l0_2.length c0_2)] 27 (0, 0))) ∧ Aside0 (Below w.heap.size w w'))
       case atStart => exact ⟨(0), z_3, H', ⟨Nat.le_refl _⟩, ⟨z_7 BK213.out⟩, ⟨z_8 HB.out GE213.out⟩⟩
       case round =>
        clear H'
        try clear c1
        try clear c2
        try clear p2
        try clear q2
        try clear hx2
        try clear c5
        try clear c5b0
        try clear p6
        try clear c7
        try clear c8
        try clear c8b0
        try clear c8b1
        try clear c17
        try clear c19
        try clear c19b0
        try clear c20
        try clear c20b0
        try clear c21
        try clear c21b0
        try clear p21
        try clear q21
        try clear hx21
        try clear c23
        try clear hcz11_0
        try clear hcz11_1
        try clear hcz11_2
        try clear hcz12_0
        try clear hcz12_1
        try clear hcz12_2
        try clear hcz14_0
        try clear hcz14_1
        try clear hcz14_2
        try clear hcz15_0
        try clear hcz15_1
        try clear hcz15_2
        try clear hcz18_0
        try clear hcz18_1
        try clear hcz18_2
        try clear hcz26_0
        try clear hcz26_1
        try clear hcz26_2
        try clear hcz9_0
        try clear hcz9_1
        try clear hcz9_2
        try clear hfz11_0
        try clear hfz11_1
        try clear hfz11_2
        try clear hfz12_0
        try clear hfz12_1
        try clear hfz12_2
        try clear hfz14_0
        try clear hfz14_1
        try clear hfz14_2
        try clear hfz15_0
        try clear hfz15_1
        try clear hfz15_2
        try clear hfz18_0
        try clear hfz18_1
        try clear hfz18_2
        try clear hfz26_0
        try clear hfz26_1
        try clear hfz26_2
        try clear hfz9_0
        try clear hfz9_1
        try clear hfz9_2
        try clear hx215_0
        try clear p2
        try clear p215
        try clear q215
        obtain ⟨x43_3, rfl, HA, HK3, BK213, HB⟩ := hrel
        cases gk with
        | zero => exact absurd HA.out (by simp [impl_treeOk.l1])
        | succ k3 =>
         have H := HA.out
         clear HA
         simp only [impl_treeOk.l1] at H
         by_cases c27 : x43_3 < (l0_2.length : Int)
         ·rw [if_pos c27] at H
          have c27b0 : decide (x43_3 < (l0_2.length : Int)) = true := decide_eq_true c27
          clear c27
          by_cases c28 : 0 ≤ x43_3
          ·rw [if_pos c28] at H
           have c28b0 : decide (0 ≤ x43_3) = true := decide_eq_true c28
           clear c28
           by_cases c29 : x43_3 < (l0_2.length : Int)
           ·rw [if_pos c29] at H
            have c29b0 : decide (x43_3 < (l0_2.length : Int)) = true := decide_eq_true c29
            clear c29
            replace H := Option.bind_eq_some_iff.mp H
            obtain ⟨t219, A300, H⟩ := H
            replace H : (if t219 = true then (impl_treeOk.l1 k3 a1 l0_2 (l0_2.length : Int) (wrap64 (x43_3 + 1))) else (some false)) = some r := H
            have A30 := Aside0.mk A300
            clear A300
            by_cases c31 : t219 = true
            ·subst c31
             have H1 : (impl_treeOk.l1 k3 a1 l0_2 (l0_2.length : Int) (wrap64 (x43_3 + 1))) = some r := by rw [if_pos rfl] at H; exact H
             clear H
             have H := H1
             clear H1
             have H' := Aside0.mk H
             clear H
             have p217 : 0 ≤ (x43_3 : Int) := of_decide_eq_true z_5
             have q217 : x43_3 < (l0_2.length : Int) := of_decide_eq_true z_5
             obtain ⟨ad217, A217_1, c217_1, A217_2, c217_2, e217, hx217_0, hx217_1, hx217_2, hl217_1, hi217_1, hl217_2, hi217_2⟩ := at_T27 HR0_2.out x43_3 p217 q217
             cases e217
             replace hx217_0 := (HB.out.cell (World.block_lt_of_cell? w _ hx217_0)).trans hx217_0
             replace hx217_1 := (HB.out.cell (World.block_lt_of_cell? w _ hx217_1)).trans hx217_1
             replace hx217_2 := (HB.out.cell (World.block_lt_of_cell? w _ hx217_2)).trans hx217_2
             have HR217_1 := Aside0.mk hi217_1
             have HC217_1 := Aside0.mk hl217_1
             clear hi217_1 hl217_1
             have HR217_2 := Aside0.mk hi217_2
             have HC217_2 := Aside0.mk hl217_2
             clear hi217_2 hl217_2
             replace p217 := eq_true p217
             replace q217 := eq_true q217
             go_wp2_with (first | ((with_reducible refine gate_dst (N := 8) rfl ?_); (try (refine gate_guard (by rfl) ?_; dsimp only)); refine box_event ?hg (N := 8) ?hd (cs := #[.string (⟨#[]⟩ : ByteArray), .slice none 0 0, .slice none 0 0]) (t := 27) ?hr ?_; (case hd => rfl); (case hg => rfl); (case hr => first | (go_simp; done) | (go_simp; rfl)); intro gb218 hg w32 hbox hb; have n0_ := Aside0.mk (blk_below (g := gb213) (o := .cells #[.string a0_0, .slice A0_1 l0_1.length c0_1, .slice (some ad217) l0_2.length c0_2] 27 (0, 0)) (z_7 BK213.out) hb); have n1_ := Aside0.mk (below_step (z_8 HB.out GE213.out) hb); have n2_ := Aside0.mk (hbox); have n3_ := Aside0.mk ((z_54 HB.out GE213.out : w.heap.size ≤ gb218)); have n4_ := Aside0.mk ((z_54 HB.out GE213.out : w.heap.size ≤ gb218)); have n5_ := Aside0.mk ((z_58 BK213.out : gb213 ≠ gb218)); have n6_ := Aside0.mk ((z_59 BK213.out : gb218 ≠ gb213)); clear BK213; clear HB; have BK213 := n0_; have HB := n1_; have BK218 := n2_; have GW218 := n3_; have GE218 := n4_; have NB213_218 := n5_; have NB218_213 := n6_; clear n0_ n1_ n2_ n3_ n4_ n5_ n6_; clear hb hbox hg; have hnb33 := NB218_213.out; have hnc33 := NB213_218.out; have hcz34_0 : w32.cell? ⟨gb218, 0, none⟩ = some (.string (⟨#[]⟩ : ByteArray)) := (blk_cell BK218.out 0).trans rfl; have hcz34_1 : w32.cell? ⟨gb218, 1, none⟩ = some (.slice none 0 0) := (blk_cell BK218.out 1).trans rfl; have hcz34_2 : w32.cell? ⟨gb218, 2, none⟩ = some (.slice none 0 0) := (blk_cell BK218.out 2).trans rfl; have hfz34_0 := blk_frozen BK218.out 0; have hfz34_1 := blk_frozen BK218.out 1; have hfz34_2 := blk_frozen BK218.out 2) | ((with_reducible refine gate_callee (f := 50) rfl ?_); refine gl_ 50 Try.func50 #[.agg #[.string ((rd_T27 l0_2 x43_3).f0), .slice A217_1 ((rd_T27 l0_2 x43_3).f1).length c217_1, .slice A217_2 ((rd_T27 l0_2 x43_3).f2).length c217_2], .int .i64 (wrap64 (a1 - 1))] ?_; (with_reducible refine (ih k3 (z_60 HJ2.out HK2.out HK3.out) ((rd_T27 l0_2 x43_3).f0) _ _ ((rd_T27 l0_2 x43_3).f1) _ _ ((rd_T27 l0_2 x43_3).f2) (wrap64 (a1 - 1)) true _ ?side1 ?side2 ?side3 ?side4 A30.out).mono ?_); (case side1 => exact Kd.C_below HR217_1.out (z_55 HB.out GE213.out GE218.out)); (case side2 => exact HC217_1.out); (case side3 => exact Kd.C_below HR217_2.out (z_55 HB.out GE213.out GE218.out)); (case side4 => exact HC217_2.out); rintro e w35 ⟨rfl, hb⟩; refine ⟨_, rfl, ?_⟩; have n0_ := Aside0.mk (blk_below (g := gb213) (o := .cells #[.string a0_0, .slice A0_1 l0_1.length c0_1, .slice (some ad217) l0_2.length c0_2] 27 (0, 0)) (z_22 NB213_218.out BK213.out) hb); have n1_ := Aside0.mk (blk_below (g := gb218) (o := .cells #[.string ((rd_T27 l0_2 x43_3).f0), .slice A217_1 ((rd_T27 l0_2 x43_3).f1).length c217_1, .slice A217_2 ((rd_T27 l0_2 x43_3).f2).length c217_2] 27 (0, 0)) (z_61 BK218.out) hb); have n2_ := Aside0.mk (below_step (z_55 HB.out GE213.out GE218.out) hb); clear BK213; clear BK218; clear HB; have BK213 := n0_; have BK218 := n1_; have HB := n2_; clear n0_ n1_ n2_; (try clear hb); (try clear hb2); (try clear hk); (try clear hi)))
             go_roundg k3
             case measure => have := HJ2.out; have := HK2.out; have := HK3.out; omega
             case rel => exact ⟨(wrap64 (x43_3 + 1)), z_3, H', ⟨z_60 HJ2.out HK2.out HK3.out⟩, ⟨z_7 BK213.out⟩, ⟨z_55 HB.out GE213.out GE218.out⟩⟩
            ·replace c31 := Bool.eq_false_iff.mpr c31
             subst c31
             have H1 : (some false) = some r := by rw [if_neg (show ¬ (false = true) by decide)] at H; exact H
             clear H
             have H := H1
             clear H1
             obtain rfl := Option.some.inj H
             have p217 : 0 ≤ (x43_3 : Int) := of_decide_eq_true z_5
             have q217 : x43_3 < (l0_2.length : Int) := of_decide_eq_true z_5
             obtain ⟨ad217, A217_1, c217_1, A217_2, c217_2, e217, hx217_0, hx217_1, hx217_2, hl217_1, hi217_1, hl217_2, hi217_2⟩ := at_T27 HR0_2.out x43_3 p217 q217
             cases e217
             replace hx217_0 := (HB.out.cell (World.block_lt_of_cell? w _ hx217_0)).trans hx217_0
             replace hx217_1 := (HB.out.cell (World.block_lt_of_cell? w _ hx217_1)).trans hx217_1
             replace hx217_2 := (HB.out.cell (World.block_lt_of_cell? w _ hx217_2)).trans hx217_2
             have HR217_1 := Aside0.mk hi217_1
             have HC217_1 := Aside0.mk hl217_1
             clear hi217_1 hl217_1
             have HR217_2 := Aside0.mk hi217_2
             have HC217_2 := Aside0.mk hl217_2
             clear hi217_2 hl217_2
             replace p217 := eq_true p217
             replace q217 := eq_true q217
             go_wp2_with (first | ((with_reducible refine gate_dst (N := 8) rfl ?_); (try (refine gate_guard (by rfl) ?_; dsimp only)); refine box_event ?hg (N := 8) ?hd (cs := #[.string (⟨#[]⟩ : ByteArray), .slice none 0 0, .slice none 0 0]) (t := 27) ?hr ?_; (case hd => rfl); (case hg => rfl); (case hr => first | (go_simp; done) | (go_simp; rfl)); intro gb218 hg w36 hbox hb; have n0_ := Aside0.mk (blk_below (g := gb213) (o := .cells #[.string a0_0, .slice A0_1 l0_1.length c0_1, .slice (some ad217) l0_2.length c0_2] 27 (0, 0)) (z_7 BK213.out) hb); have n1_ := Aside0.mk (below_step (z_8 HB.out GE213.out) hb); have n2_ := Aside0.mk (hbox); have n3_ := Aside0.mk ((z_54 HB.out GE213.out : w.heap.size ≤ gb218)); have n4_ := Aside0.mk ((z_54 HB.out GE213.out : w.heap.size ≤ gb218)); have n5_ := Aside0.mk ((z_58 BK213.out : gb213 ≠ gb218)); have n6_ := Aside0.mk ((z_59 BK213.out : gb218 ≠ gb213)); clear BK213; clear HB; have BK213 := n0_; have HB := n1_; have BK218 := n2_; have GW218 := n3_; have GE218 := n4_; have NB213_218 := n5_; have NB218_213 := n6_; clear n0_ n1_ n2_ n3_ n4_ n5_ n6_; clear hb hbox hg; have hnb37 := NB218_213.out; have hnc37 := NB213_218.out; have hcz38_0 : w36.cell? ⟨gb218, 0, none⟩ = some (.string (⟨#[]⟩ : ByteArray)) := (blk_cell BK218.out 0).trans rfl; have hcz38_1 : w36.cell? ⟨gb218, 1, none⟩ = some (.slice none 0 0) := (blk_cell BK218.out 1).trans rfl; have hcz38_2 : w36.cell? ⟨gb218, 2, none⟩ = some (.slice none 0 0) := (blk_cell BK218.out 2).trans rfl; have hfz38_0 := blk_frozen BK218.out 0; have hfz38_1 := blk_frozen BK218.out 1; have hfz38_2 := blk_frozen BK218.out 2) | ((with_reducible refine gate_callee (f := 50) rfl ?_); refine gl_ 50 Try.func50 #[.agg #[.string ((rd_T27 l0_2 x43_3).f0), .slice A217_1 ((rd_T27 l0_2 x43_3).f1).length c217_1, .slice A217_2 ((rd_T27 l0_2 x43_3).f2).length c217_2], .int .i64 (wrap64 (a1 - 1))] ?_; (with_reducible refine (ih k3 (z_60 HJ2.out HK2.out HK3.out) ((rd_T27 l0_2 x43_3).f0) _ _ ((rd_T27 l0_2 x43_3).f1) _ _ ((rd_T27 l0_2 x43_3).f2) (wrap64 (a1 - 1)) false _ ?side1 ?side2 ?side3 ?side4 A30.out).mono ?_); (case side1 => exact Kd.C_below HR217_1.out (z_55 HB.out GE213.out GE218.out)); (case side2 => exact HC217_1.out); (case side3 => exact Kd.C_below HR217_2.out (z_55 HB.out GE213.out GE218.out)); (case side4 => exact HC217_2.out); rintro e w39 ⟨rfl, hb⟩; refine ⟨_, rfl, ?_⟩; have n0_ := Aside0.mk (blk_below (g := gb213) (o := .cells #[.string a0_0, .slice A0_1 l0_1.length c0_1, .slice (some ad217) l0_2.length c0_2] 27 (0, 0)) (z_22 NB213_218.out BK213.out) hb); have n1_ := Aside0.mk (blk_below (g := gb218) (o := .cells #[.string ((rd_T27 l0_2 x43_3).f0), .slice A217_1 ((rd_T27 l0_2 x43_3).f1).length c217_1, .slice A217_2 ((rd_T27 l0_2 x43_3).f2).length c217_2] 27 (0, 0)) (z_61 BK218.out) hb); have n2_ := Aside0.mk (below_step (z_55 HB.out GE213.out GE218.out) hb); clear BK213; clear BK218; clear HB; have BK213 := n0_; have BK218 := n1_; have HB := n2_; clear n0_ n1_ n2_; (try clear hb); (try clear hb2); (try clear hk); (try clear hi)))
             go_ret
             exact ⟨z_9, z_55 HB.out GE213.out GE218.out⟩
           ·rw [if_neg c29] at H
            exact absurd H (by simp)
          ·rw [if_neg c28] at H
           exact absurd H (by simp)
         ·rw [if_neg c27] at H
          have c27b0 : decide (x43_3 < (l0_2.length : Int)) = false := decide_eq_false c27
          clear c27
          obtain rfl := Option.some.inj H
          go_wp2
          go_ret
          exact ⟨z_9, z_8 HB.out GE213.out⟩
def impl_copyTexts.f (l0 : List ByteArray) : Option (List ByteArray) := (some (([] : List ByteArray) : List ByteArray)).bind fun y220 => (if y220.length + l0.length < 8796093022208 then (some (y220 ++ l0)) else (none))
set_option maxHeartbeats 8000000 in
set_option maxRecDepth 100000 in
theorem impl_copyTexts.calls (A0 : Option Addr) (c0 : Nat) (l0 : List ByteArray) (r : List ByteArray) (w : World) (hr0 : Kd.C Kd.string w A0 l0.length l0) (hc0 : l0.length ≤ c0) (h : impl_copyTexts.f l0 = some r) :
 Calls Try.prog 57 #[.slice A0 l0.length c0] w fun e w' => ∃ v0_ : Value, e = .returned (v0_) ∧ Kd.R Kd.string 9 w' w.heap.size (fun _ => True) v0_ r ∧ Below w.heap.size w w' := by
 have HR0 := Aside0.mk hr0
 have HC0 := Aside0.mk hc0
 clear hr0 hc0
 have HB := Aside0.mk (Below.refl w.heap.size w)
 have H : ((some (([] : List ByteArray) : List ByteArray)).bind fun y220 => (if y220.length + l0.length < 8796093022208 then (some (y220 ++ l0)) else (none))) = some r := h
 clear h
 obtain ⟨y220, hy220⟩ : ∃ y_ : List ByteArray, y_ = (([] : List ByteArray)) := ⟨_, rfl⟩
 replace H : (if y220.length + l0.length < 8796093022208 then (some (y220 ++ l0)) else (none)) = some r := by first | (rw [hy220]; with_reducible exact H) | (have H2_ := (Option.bind_some _ _).symm.trans H; rw [hy220]; with_reducible exact H2_) | (have H2_ := (Option.bind_some _ _).symm.trans H; with_reducible exact H2_) | with_reducible exact H | (rw [hy220]; exact H) | exact H
 have Ny220 := Aside0.mk hy220
 clear hy220
 by_cases c2 : y220.length + l0.length < 8796093022208
 ·rw [if_pos c2] at H
  have LMc2 := Aside0.mk c2
  clear c2
  obtain ⟨y223, hy223⟩ : ∃ y_ : List ByteArray, y_ = (y220 ++ l0) := ⟨_, rfl⟩
  replace H : (some y223) = some r := by first | (rw [hy223]; with_reducible exact H) | (have H2_ := (Option.bind_some _ _).symm.trans H; rw [hy223]; with_reducible exact H2_) | (have H2_ := (Option.bind_some _ _).symm.trans H; with_reducible exact H2_) | with_reducible exact H | (rw [hy223]; exact H) | exact H
  have Ny223 := Aside0.mk hy223
  clear hy223
  obtain rfl := Option.some.inj H
  go_enter Try.func57, Try.ntmps57
  go_wp2_with (first | ((with_reducible refine gate_dst (N := 3) rfl ?_); refine Kd.R_lit Kd.string _ 9 ?hg (N := 3) ?hd (xs := ([] : List ByteArray)) (inner := []) (ok := fun _ => True) (okp := fun _ => True) ?hr ?hp (fun _ hk => hk) trivial (Below.refl _ _) (Nat.le_refl _) (by simp) ?_; (case hd => rfl); (case hg => rfl); (case hr => first | (go_simp; done) | (go_simp; rfl)); (case hp => exact (Reps.none _ _)); intro v221 w3 ho4 hb hg_ hnew_; clear hg_ hnew_; (first | rw [← Ny220.out] at ho4 | (simp only [Int.reduceToNat] at ho4; rw [← Ny220.out] at ho4)); have n0_ := Aside0.mk (Kd.R_lower ho4 (below_size (z_4 HB.out))); have n1_ := Aside0.mk (below_step (z_4 HB.out) hb); clear HB; have HO222 := n0_; have HB := n1_; clear n0_ n1_; clear hb ho4) | ((with_reducible refine gate_builtin (b := .append) (xs := #[.tmp 3, .tmp 4]) rfl ?_); at_builtin; refine Kd.R_append_rows Kd.string (w0 := w) w.heap.size rfl (.tmp 3) (.tmp 4) 24 9 (.string ⟨#[]⟩) 16 rfl Try.underlying24 info9 rfl (by decide) (by omega) v221 y220 l0 _ _ _ (fun _ => True) (fun _ => False) rfl rfl ?aO ?aR (fun _ _ h => h) (fun _ h => h.elim) ?aF ?aB ?aS ?aL ?_; (case aR => exact z_62 HR0.out HB.out); (case aB => exact z_4 HB.out); (case aF => exact (fun _ _ => trivial)); (case aO => exact z_17 HO222.out); (case aS => exact (below_size (z_4 HB.out))); (case aL => have := LMc2.out; omega); intro v224 w5 ho hb hg hat; rw [← Ny223.out] at ho; have n0_ := Aside0.mk (hb); have n1_ := Aside0.mk (ho); clear HB; clear HO222; have HB := n0_; have HO225 := n1_; clear n0_ n1_; clear ho hb hg hat))
  go_ret
  exact ⟨_, z_9, z_17 HO225.out, z_4 HB.out⟩
 ·rw [if_neg c2] at H
  exact absurd H (by simp)
end Go.Proofs.Ytdphpmejjlgpnaa.PFnLaidOver
