import Derived.Test.YtdphpmejjlgpnaaD0
import Derived.Test.YtdphpmejjlgpnaaD11
import Derived.Test.YtdphpmejjlgpnaaDZ
set_option linter.unusedVariables false
set_option linter.unusedSimpArgs false
set_option linter.unusedSectionVars false
namespace Go.Proofs.Ytdphpmejjlgpnaa.PFnTreesBent
open Go.RowKit Go.Proofs.YtdphpmejjlgpnaaW.PrintWords Go.Proofs.YtdphpmejjlgpnaaW.PrintLast Go.Proofs.YtdphpmejjlgpnaaW.PrintMore Go.Proofs.Ytdphpmejjlgpnaa.Short
attribute [local go_sem] max2_int min2_int max_two min_two max_three min_three max_four min_four
def spec_l9Form.l0 : Nat → ByteArray → Int → Option (Bool)
 | 0, _, _ => none
 | k + 1, x0, x3 => if x3 < (x0.size : Int) then (if 0 ≤ x3 then ((spec_l9Small.f (bt x0 x3)).bind fun ak8 => (if ak8 = true then (spec_l9Form.l0 k x0 (wrap64 (x3 + 1))) else (if x3 = 0 then (some false) else ((spec_l9Digit.f (bt x0 x3)).bind fun ak9 => (if ak9 = true then (spec_l9Form.l0 k x0 (wrap64 (x3 + 1))) else (some false)))))) else (none)) else ((spec_l1In.f (x0.size : Int) 1 6).bind fun aka => (some aka))
def spec_l9Form.f (k : Nat) (a0 : ByteArray) : Option (Bool) := spec_l9Form.l0 k a0 0
theorem spec_l9Form.mono_l : ∀ k, (∀ y0 y1, LeO (spec_l9Form.l0 k y0 y1) (spec_l9Form.l0 (k + 1) y0 y1))
 | 0 => fun _ _ r h => by simp [spec_l9Form.l0] at h
 | k + 1 => by
  have ih0 := spec_l9Form.mono_l k
  ·intro y0 y1; unfold spec_l9Form.l0
   repeat' first
   | (with_reducible exact ih0 _ _)
   | (with_reducible exact LeO.refl _)
   | (with_reducible exact LeO.none _)
   | (with_reducible refine LeO.ite ?_ ?_)
   | (with_reducible refine LeO.bind ?_ (fun _ => ?_))
   | exact ih0 _ _
   | exact LeO.none _
   | refine LeO.ite ?_ ?_
   | refine LeO.bind ?_ (fun _ => ?_)
theorem spec_l9Form.mono : ∀ a0 k, LeO (spec_l9Form.f k a0) (spec_l9Form.f (k + 1) a0) := by
 intro a0 k; have ih0 := spec_l9Form.mono_l k; unfold spec_l9Form.f
 repeat' first
  | (with_reducible exact ih0 _ _)
  | (with_reducible exact LeO.refl _)
  | (with_reducible exact LeO.none _)
  | (with_reducible refine LeO.ite ?_ ?_)
  | (with_reducible refine LeO.bind ?_ (fun _ => ?_))
  | exact ih0 _ _
  | exact LeO.none _
  | refine LeO.ite ?_ ?_
  | refine LeO.bind ?_ (fun _ => ?_)
set_option maxHeartbeats 8000000 in
set_option maxRecDepth 100000 in
theorem spec_l9Form.calls (k : Nat) (a0 : ByteArray) (r : Bool) (w : World) (h : spec_l9Form.f k a0 = some r) :
 Calls Try.prog 65 #[.string a0] w fun e w' => e = .returned (.bool r) ∧ Drawn0 w w' := by
 have H : (spec_l9Form.l0 k a0 0) = some r := h; clear h; have H' := Aside0.mk H; clear H
 go_enter Try.func65, Try.ntmps65
 go_wp2
 go_loopg [3] k (fun kq v3 w' => ∃ (cb : Int), v3 = .int .i64 cb ∧ Aside0 (spec_l9Form.l0 kq a0 cb = some r) ∧ Aside0 (kq ≤ k) ∧ Drawn0 w w')
 case atStart => exact ⟨(0), z_6, H', ⟨Nat.le_refl _⟩, z_2⟩
 case round =>
  clear H'; obtain ⟨cb, rfl, HA, HK1, ⟨m1, rfl⟩⟩ := hrel
  cases gk with
  | zero => exact absurd HA.out (by simp [spec_l9Form.l0])
  | succ k1 =>
   have H := HA.out; clear HA; simp only [spec_l9Form.l0] at H
   by_cases c2 : cb < (a0.size : Int)
   ·rw [if_pos c2] at H; have a1j := decide_eq_true c2; clear c2
    by_cases c3 : 0 ≤ cb
    ·rw [if_pos c3] at H; have mw := decide_eq_true c3; clear c3; replace H := Option.bind_eq_some_iff.mp H; obtain ⟨ak8, fj, H⟩ := H; have A5 := Aside0.mk fj; clear fj
     by_cases c6 : ak8 = true
     ·subst c6; rw [if_pos rfl] at H; have H' := Aside0.mk H; clear H; have p4 : 0 ≤ (cb : Int) := of_decide_eq_true z_9; have q4 : cb < (a0.size : Int) := of_decide_eq_true z_9; have hx4 := bt_at a0 cb; replace p4 := eq_true p4; replace q4 := eq_true q4; go_wp2_with (first | ((with_reducible refine gate_callee (f := 82) rfl ?_); refine gl_ 13 Try.func82 #[.int .u8 (bt a0 cb)] ?_; (with_reducible refine (spec_l9Small.calls (bt a0 cb) true _ A5.out).mono ?_); rintro e w' ⟨rfl, ⟨nd, rfl⟩⟩; refine ⟨_, rfl, ?_⟩)); go_roundg k1
      case measure => have := HK1.out; omega
      case rel => exact ⟨(wrap64 (cb + 1)), z_6, H', ⟨by have := HK1.out; omega⟩, z_2⟩
     ·replace c6 := Bool.eq_false_iff.mpr c6; subst c6; rw [if_neg (show ¬ (false = true) by decide)] at H
      by_cases c7 : cb = 0
      ·rw [if_pos c7] at H; have pk : (cb == 0) = true := beq_iff_eq.mpr c7; have a6q : (cb != 0) = false := bne_eq_false_iff_eq.mpr c7; clear c7; obtain rfl := Option.some.inj H; have p4 : 0 ≤ (cb : Int) := of_decide_eq_true z_9; have q4 : cb < (a0.size : Int) := of_decide_eq_true z_9; have hx4 := bt_at a0 cb; replace p4 := eq_true p4; replace q4 := eq_true q4; go_wp2_with (first | ((with_reducible refine gate_callee (f := 82) rfl ?_); refine gl_ 13 Try.func82 #[.int .u8 (bt a0 cb)] ?_; (with_reducible refine (spec_l9Small.calls (bt a0 cb) false _ A5.out).mono ?_); rintro e w' ⟨rfl, ⟨nd, rfl⟩⟩; refine ⟨_, rfl, ?_⟩)); go_ret; exact ⟨z_1, z_2⟩
      ·rw [if_neg c7] at H; have pk : (cb == 0) = false := beq_eq_false_iff_ne.mpr c7; have a6q : (cb != 0) = true := bne_iff_ne.mpr c7; replace H := Option.bind_eq_some_iff.mp H; obtain ⟨ak9, jn, H⟩ := H; have A9 := Aside0.mk jn; clear jn
       by_cases ew : ak9 = true
       ·subst ew; rw [if_pos rfl] at H; have H' := Aside0.mk H; clear H; have p4 : 0 ≤ (cb : Int) := of_decide_eq_true z_9; have q4 : cb < (a0.size : Int) := of_decide_eq_true z_9; have hx4 := bt_at a0 cb; replace p4 := eq_true p4; replace q4 := eq_true q4; go_wp2_with (first | ((with_reducible refine gate_callee (f := 82) rfl ?_); refine gl_ 13 Try.func82 #[.int .u8 (bt a0 cb)] ?_; (with_reducible refine (spec_l9Small.calls (bt a0 cb) false _ A5.out).mono ?_); rintro e w' ⟨rfl, ⟨nd, rfl⟩⟩; refine ⟨_, rfl, ?_⟩; have p8 : 0 ≤ (cb : Int) := of_decide_eq_true z_9; have q8 : cb < (a0.size : Int) := of_decide_eq_true z_9; have hx8 := bt_at a0 cb; replace p8 := eq_true p8; replace q8 := eq_true q8) | (go_at_call 83; (with_reducible refine (spec_l9Digit.calls (bt a0 cb) true _ A9.out).mono ?_); rintro e w' ⟨rfl, ⟨nd, rfl⟩⟩)); go_roundg k1
        case measure => have := HK1.out; omega
        case rel => exact ⟨(wrap64 (cb + 1)), z_6, H', ⟨by have := HK1.out; omega⟩, z_2⟩
       ·replace ew := Bool.eq_false_iff.mpr ew; subst ew; rw [if_neg (show ¬ (false = true) by decide)] at H; obtain rfl := Option.some.inj H; have p4 : 0 ≤ (cb : Int) := of_decide_eq_true z_9; have q4 : cb < (a0.size : Int) := of_decide_eq_true z_9; have hx4 := bt_at a0 cb; replace p4 := eq_true p4; replace q4 := eq_true q4; go_wp2_with (first | ((with_reducible refine gate_callee (f := 82) rfl ?_); refine gl_ 13 Try.func82 #[.int .u8 (bt a0 cb)] ?_; (with_reducible refine (spec_l9Small.calls (bt a0 cb) false _ A5.out).mono ?_); rintro e w' ⟨rfl, ⟨nd, rfl⟩⟩; refine ⟨_, rfl, ?_⟩; have p8 : 0 ≤ (cb : Int) := of_decide_eq_true z_9; have q8 : cb < (a0.size : Int) := of_decide_eq_true z_9; have hx8 := bt_at a0 cb; replace p8 := eq_true p8; replace q8 := eq_true q8) | (go_at_call 83; (with_reducible refine (spec_l9Digit.calls (bt a0 cb) false _ A9.out).mono ?_); rintro e w' ⟨rfl, ⟨nd, rfl⟩⟩))
        go_ret; exact ⟨z_1, z_2⟩
    ·rw [if_neg c3] at H; exact absurd H (by simp)
   ·rw [if_neg c2] at H; have a1j := decide_eq_false c2; clear c2; replace H := Option.bind_eq_some_iff.mp H; obtain ⟨aka, aqd, H⟩ := H; have A11 := Aside0.mk aqd; clear aqd; obtain rfl := Option.some.inj H; go_wp2_with (first | ((with_reducible refine gate_callee (f := 39) rfl ?_); refine gl_ 28 Try.func39 #[.int .i64 (a0.size : Int), .int .i64 1, .int .i64 6] ?_; (with_reducible refine (spec_l1In.calls (a0.size : Int) 1 6 aka _ A11.out).mono ?_); rintro e w' ⟨rfl, ⟨nd, rfl⟩⟩; refine ⟨_, rfl, ?_⟩)); go_ret; exact ⟨z_1, z_2⟩
def spec_l9Kept.f  : Option (List ByteArray) := some (([(⟨#[109, 111, 118]⟩ : ByteArray), (⟨#[99, 109, 112]⟩ : ByteArray), (⟨#[98, 105, 99]⟩ : ByteArray), (⟨#[98, 105, 115]⟩ : ByteArray), (⟨#[97, 100, 100]⟩ : ByteArray), (⟨#[115, 117, 98]⟩ : ByteArray), (⟨#[99, 108, 114]⟩ : ByteArray), (⟨#[105, 110, 99]⟩ : ByteArray), (⟨#[100, 101, 99]⟩ : ByteArray), (⟨#[110, 101, 103]⟩ : ByteArray), (⟨#[116, 115, 116]⟩ : ByteArray), (⟨#[97, 115, 114]⟩ : ByteArray), (⟨#[97, 115, 108]⟩ : ByteArray), (⟨#[106, 109, 112]⟩ : ByteArray), (⟨#[106, 115, 114]⟩ : ByteArray), (⟨#[114, 116, 115]⟩ : ByteArray), (⟨#[98, 114]⟩ : ByteArray), (⟨#[98, 110, 101]⟩ : ByteArray), (⟨#[98, 101, 113]⟩ : ByteArray), (⟨#[98, 103, 101]⟩ : ByteArray), (⟨#[98, 108, 116]⟩ : ByteArray), (⟨#[104, 97, 108, 116]⟩ : ByteArray), (⟨#[101, 109, 116]⟩ : ByteArray), (⟨#[114, 48]⟩ : ByteArray), (⟨#[114, 49]⟩ : ByteArray), (⟨#[114, 50]⟩ : ByteArray), (⟨#[114, 51]⟩ : ByteArray), (⟨#[114, 52]⟩ : ByteArray), (⟨#[114, 53]⟩ : ByteArray), (⟨#[115, 112]⟩ : ByteArray), (⟨#[112, 99]⟩ : ByteArray)] : List ByteArray))
set_option maxHeartbeats 8000000 in
set_option maxRecDepth 100000 in
theorem spec_l9Kept.calls  (r : List ByteArray) (w : World) (h : spec_l9Kept.f  = some r) :
 Calls Try.prog 66 #[] w fun e w' => ∃ v0_ : Value, e = .returned (v0_) ∧ Kd.R Kd.string 9 w' w.heap.size (fun _ => True) v0_ r ∧ Below w.heap.size w w' := by
 have HB := Aside0.mk (Below.refl w.heap.size w); have H : (some (([(⟨#[109, 111, 118]⟩ : ByteArray), (⟨#[99, 109, 112]⟩ : ByteArray), (⟨#[98, 105, 99]⟩ : ByteArray), (⟨#[98, 105, 115]⟩ : ByteArray), (⟨#[97, 100, 100]⟩ : ByteArray), (⟨#[115, 117, 98]⟩ : ByteArray), (⟨#[99, 108, 114]⟩ : ByteArray), (⟨#[105, 110, 99]⟩ : ByteArray), (⟨#[100, 101, 99]⟩ : ByteArray), (⟨#[110, 101, 103]⟩ : ByteArray), (⟨#[116, 115, 116]⟩ : ByteArray), (⟨#[97, 115, 114]⟩ : ByteArray), (⟨#[97, 115, 108]⟩ : ByteArray), (⟨#[106, 109, 112]⟩ : ByteArray), (⟨#[106, 115, 114]⟩ : ByteArray), (⟨#[114, 116, 115]⟩ : ByteArray), (⟨#[98, 114]⟩ : ByteArray), (⟨#[98, 110, 101]⟩ : ByteArray), (⟨#[98, 101, 113]⟩ : ByteArray), (⟨#[98, 103, 101]⟩ : ByteArray), (⟨#[98, 108, 116]⟩ : ByteArray), (⟨#[104, 97, 108, 116]⟩ : ByteArray), (⟨#[101, 109, 116]⟩ : ByteArray), (⟨#[114, 48]⟩ : ByteArray), (⟨#[114, 49]⟩ : ByteArray), (⟨#[114, 50]⟩ : ByteArray), (⟨#[114, 51]⟩ : ByteArray), (⟨#[114, 52]⟩ : ByteArray), (⟨#[114, 53]⟩ : ByteArray), (⟨#[115, 112]⟩ : ByteArray), (⟨#[112, 99]⟩ : ByteArray)] : List ByteArray))) = some r := h
 clear h; obtain ⟨az9, ad0⟩ : ∃ y_ : List ByteArray, y_ = (([(⟨#[109, 111, 118]⟩ : ByteArray), (⟨#[99, 109, 112]⟩ : ByteArray), (⟨#[98, 105, 99]⟩ : ByteArray), (⟨#[98, 105, 115]⟩ : ByteArray), (⟨#[97, 100, 100]⟩ : ByteArray), (⟨#[115, 117, 98]⟩ : ByteArray), (⟨#[99, 108, 114]⟩ : ByteArray), (⟨#[105, 110, 99]⟩ : ByteArray), (⟨#[100, 101, 99]⟩ : ByteArray), (⟨#[110, 101, 103]⟩ : ByteArray), (⟨#[116, 115, 116]⟩ : ByteArray), (⟨#[97, 115, 114]⟩ : ByteArray), (⟨#[97, 115, 108]⟩ : ByteArray), (⟨#[106, 109, 112]⟩ : ByteArray), (⟨#[106, 115, 114]⟩ : ByteArray), (⟨#[114, 116, 115]⟩ : ByteArray), (⟨#[98, 114]⟩ : ByteArray), (⟨#[98, 110, 101]⟩ : ByteArray), (⟨#[98, 101, 113]⟩ : ByteArray), (⟨#[98, 103, 101]⟩ : ByteArray), (⟨#[98, 108, 116]⟩ : ByteArray), (⟨#[104, 97, 108, 116]⟩ : ByteArray), (⟨#[101, 109, 116]⟩ : ByteArray), (⟨#[114, 48]⟩ : ByteArray), (⟨#[114, 49]⟩ : ByteArray), (⟨#[114, 50]⟩ : ByteArray), (⟨#[114, 51]⟩ : ByteArray), (⟨#[114, 52]⟩ : ByteArray), (⟨#[114, 53]⟩ : ByteArray), (⟨#[115, 112]⟩ : ByteArray), (⟨#[112, 99]⟩ : ByteArray)] : List ByteArray)) := ⟨_, rfl⟩
 replace H : (some az9) = some r := by first | (rw [ad0]; with_reducible exact H) | (have H2_ := (Option.bind_some _ _).symm.trans H; rw [ad0]; with_reducible exact H2_) | (have H2_ := (Option.bind_some _ _).symm.trans H; with_reducible exact H2_) | with_reducible exact H | (rw [ad0]; exact H) | exact H
 have aqe := Aside0.mk ad0; clear ad0; obtain rfl := Option.some.inj H
 go_enter Try.func66, Try.ntmps66
 go_wp2_with (first | ((with_reducible refine gate_dst (N := 1) rfl ?_); refine Kd.R_lit Kd.string _ 9 ?hg (N := 1) ?hd (xs := ([(⟨#[109, 111, 118]⟩ : ByteArray), (⟨#[99, 109, 112]⟩ : ByteArray), (⟨#[98, 105, 99]⟩ : ByteArray), (⟨#[98, 105, 115]⟩ : ByteArray), (⟨#[97, 100, 100]⟩ : ByteArray), (⟨#[115, 117, 98]⟩ : ByteArray), (⟨#[99, 108, 114]⟩ : ByteArray), (⟨#[105, 110, 99]⟩ : ByteArray), (⟨#[100, 101, 99]⟩ : ByteArray), (⟨#[110, 101, 103]⟩ : ByteArray), (⟨#[116, 115, 116]⟩ : ByteArray), (⟨#[97, 115, 114]⟩ : ByteArray), (⟨#[97, 115, 108]⟩ : ByteArray), (⟨#[106, 109, 112]⟩ : ByteArray), (⟨#[106, 115, 114]⟩ : ByteArray), (⟨#[114, 116, 115]⟩ : ByteArray), (⟨#[98, 114]⟩ : ByteArray), (⟨#[98, 110, 101]⟩ : ByteArray), (⟨#[98, 101, 113]⟩ : ByteArray), (⟨#[98, 103, 101]⟩ : ByteArray), (⟨#[98, 108, 116]⟩ : ByteArray), (⟨#[104, 97, 108, 116]⟩ : ByteArray), (⟨#[101, 109, 116]⟩ : ByteArray), (⟨#[114, 48]⟩ : ByteArray), (⟨#[114, 49]⟩ : ByteArray), (⟨#[114, 50]⟩ : ByteArray), (⟨#[114, 51]⟩ : ByteArray), (⟨#[114, 52]⟩ : ByteArray), (⟨#[114, 53]⟩ : ByteArray), (⟨#[115, 112]⟩ : ByteArray), (⟨#[112, 99]⟩ : ByteArray)] : List ByteArray)) (inner := [.string (⟨#[109, 111, 118]⟩ : ByteArray), .string (⟨#[99, 109, 112]⟩ : ByteArray), .string (⟨#[98, 105, 99]⟩ : ByteArray), .string (⟨#[98, 105, 115]⟩ : ByteArray), .string (⟨#[97, 100, 100]⟩ : ByteArray), .string (⟨#[115, 117, 98]⟩ : ByteArray), .string (⟨#[99, 108, 114]⟩ : ByteArray), .string (⟨#[105, 110, 99]⟩ : ByteArray), .string (⟨#[100, 101, 99]⟩ : ByteArray), .string (⟨#[110, 101, 103]⟩ : ByteArray), .string (⟨#[116, 115, 116]⟩ : ByteArray), .string (⟨#[97, 115, 114]⟩ : ByteArray), .string (⟨#[97, 115, 108]⟩ : ByteArray), .string (⟨#[106, 109, 112]⟩ : ByteArray), .string (⟨#[106, 115, 114]⟩ : ByteArray), .string (⟨#[114, 116, 115]⟩ : ByteArray), .string (⟨#[98, 114]⟩ : ByteArray), .string (⟨#[98, 110, 101]⟩ : ByteArray), .string (⟨#[98, 101, 113]⟩ : ByteArray), .string (⟨#[98, 103, 101]⟩ : ByteArray), .string (⟨#[98, 108, 116]⟩ : ByteArray), .string (⟨#[104, 97, 108, 116]⟩ : ByteArray), .string (⟨#[101, 109, 116]⟩ : ByteArray), .string (⟨#[114, 48]⟩ : ByteArray), .string (⟨#[114, 49]⟩ : ByteArray), .string (⟨#[114, 50]⟩ : ByteArray), .string (⟨#[114, 51]⟩ : ByteArray), .string (⟨#[114, 52]⟩ : ByteArray), .string (⟨#[114, 53]⟩ : ByteArray), .string (⟨#[115, 112]⟩ : ByteArray), .string (⟨#[112, 99]⟩ : ByteArray)]) (ok := fun _ => True) (okp := fun _ => True) ?hr ?hp (fun _ hk => hk) trivial (Below.refl _ _) (Nat.le_refl _) (by simp) ?_; (case hd => rfl); (case hg => rfl); (case hr => first | (go_simp; done) | (go_simp; rfl)); (case hp => exact (Reps.one (show Kd.M Kd.string _ _ _ (⟨#[109, 111, 118]⟩ : ByteArray) [.string (⟨#[109, 111, 118]⟩ : ByteArray)] from rfl) (Reps.one (show Kd.M Kd.string _ _ _ (⟨#[99, 109, 112]⟩ : ByteArray) [.string (⟨#[99, 109, 112]⟩ : ByteArray)] from rfl) (Reps.one (show Kd.M Kd.string _ _ _ (⟨#[98, 105, 99]⟩ : ByteArray) [.string (⟨#[98, 105, 99]⟩ : ByteArray)] from rfl) (Reps.one (show Kd.M Kd.string _ _ _ (⟨#[98, 105, 115]⟩ : ByteArray) [.string (⟨#[98, 105, 115]⟩ : ByteArray)] from rfl) (Reps.one (show Kd.M Kd.string _ _ _ (⟨#[97, 100, 100]⟩ : ByteArray) [.string (⟨#[97, 100, 100]⟩ : ByteArray)] from rfl) (Reps.one (show Kd.M Kd.string _ _ _ (⟨#[115, 117, 98]⟩ : ByteArray) [.string (⟨#[115, 117, 98]⟩ : ByteArray)] from rfl) (Reps.one (show Kd.M Kd.string _ _ _ (⟨#[99, 108, 114]⟩ : ByteArray) [.string (⟨#[99, 108, 114]⟩ : ByteArray)] from rfl) (Reps.one (show Kd.M Kd.string _ _ _ (⟨#[105, 110, 99]⟩ : ByteArray) [.string (⟨#[105, 110, 99]⟩ : ByteArray)] from rfl) (Reps.one (show Kd.M Kd.string _ _ _ (⟨#[100, 101, 99]⟩ : ByteArray) [.string (⟨#[100, 101, 99]⟩ : ByteArray)] from rfl) (Reps.one (show Kd.M Kd.string _ _ _ (⟨#[110, 101, 103]⟩ : ByteArray) [.string (⟨#[110, 101, 103]⟩ : ByteArray)] from rfl) (Reps.one (show Kd.M Kd.string _ _ _ (⟨#[116, 115, 116]⟩ : ByteArray) [.string (⟨#[116, 115, 116]⟩ : ByteArray)] from rfl) (Reps.one (show Kd.M Kd.string _ _ _ (⟨#[97, 115, 114]⟩ : ByteArray) [.string (⟨#[97, 115, 114]⟩ : ByteArray)] from rfl) (Reps.one (show Kd.M Kd.string _ _ _ (⟨#[97, 115, 108]⟩ : ByteArray) [.string (⟨#[97, 115, 108]⟩ : ByteArray)] from rfl) (Reps.one (show Kd.M Kd.string _ _ _ (⟨#[106, 109, 112]⟩ : ByteArray) [.string (⟨#[106, 109, 112]⟩ : ByteArray)] from rfl) (Reps.one (show Kd.M Kd.string _ _ _ (⟨#[106, 115, 114]⟩ : ByteArray) [.string (⟨#[106, 115, 114]⟩ : ByteArray)] from rfl) (Reps.one (show Kd.M Kd.string _ _ _ (⟨#[114, 116, 115]⟩ : ByteArray) [.string (⟨#[114, 116, 115]⟩ : ByteArray)] from rfl) (Reps.one (show Kd.M Kd.string _ _ _ (⟨#[98, 114]⟩ : ByteArray) [.string (⟨#[98, 114]⟩ : ByteArray)] from rfl) (Reps.one (show Kd.M Kd.string _ _ _ (⟨#[98, 110, 101]⟩ : ByteArray) [.string (⟨#[98, 110, 101]⟩ : ByteArray)] from rfl) (Reps.one (show Kd.M Kd.string _ _ _ (⟨#[98, 101, 113]⟩ : ByteArray) [.string (⟨#[98, 101, 113]⟩ : ByteArray)] from rfl) (Reps.one (show Kd.M Kd.string _ _ _ (⟨#[98, 103, 101]⟩ : ByteArray) [.string (⟨#[98, 103, 101]⟩ : ByteArray)] from rfl) (Reps.one (show Kd.M Kd.string _ _ _ (⟨#[98, 108, 116]⟩ : ByteArray) [.string (⟨#[98, 108, 116]⟩ : ByteArray)] from rfl) (Reps.one (show Kd.M Kd.string _ _ _ (⟨#[104, 97, 108, 116]⟩ : ByteArray) [.string (⟨#[104, 97, 108, 116]⟩ : ByteArray)] from rfl) (Reps.one (show Kd.M Kd.string _ _ _ (⟨#[101, 109, 116]⟩ : ByteArray) [.string (⟨#[101, 109, 116]⟩ : ByteArray)] from rfl) (Reps.one (show Kd.M Kd.string _ _ _ (⟨#[114, 48]⟩ : ByteArray) [.string (⟨#[114, 48]⟩ : ByteArray)] from rfl) (Reps.one (show Kd.M Kd.string _ _ _ (⟨#[114, 49]⟩ : ByteArray) [.string (⟨#[114, 49]⟩ : ByteArray)] from rfl) (Reps.one (show Kd.M Kd.string _ _ _ (⟨#[114, 50]⟩ : ByteArray) [.string (⟨#[114, 50]⟩ : ByteArray)] from rfl) (Reps.one (show Kd.M Kd.string _ _ _ (⟨#[114, 51]⟩ : ByteArray) [.string (⟨#[114, 51]⟩ : ByteArray)] from rfl) (Reps.one (show Kd.M Kd.string _ _ _ (⟨#[114, 52]⟩ : ByteArray) [.string (⟨#[114, 52]⟩ : ByteArray)] from rfl) (Reps.one (show Kd.M Kd.string _ _ _ (⟨#[114, 53]⟩ : ByteArray) [.string (⟨#[114, 53]⟩ : ByteArray)] from rfl) (Reps.one (show Kd.M Kd.string _ _ _ (⟨#[115, 112]⟩ : ByteArray) [.string (⟨#[115, 112]⟩ : ByteArray)] from rfl) (Reps.one (show Kd.M Kd.string _ _ _ (⟨#[112, 99]⟩ : ByteArray) [.string (⟨#[112, 99]⟩ : ByteArray)] from rfl) (Reps.none _ _))))))))))))))))))))))))))))))))); intro bdv w1 gx hb hg_ hnew_; clear hg_ hnew_; (first | rw [← aqe.out] at gx | (simp only [Int.reduceToNat] at gx; rw [← aqe.out] at gx)); have aza := ak (Kd.R_lower gx (below_size (z_4 HB.out))); replace HB := ak (below_step (z_4 HB.out) hb); clear hb gx))
 go_ret; exact ⟨_, z_17, z_7 aza.out, z_4 HB.out⟩
def spec_l9Name.f (k : Nat) (a0 : ByteArray) : Option (Bool) := (spec_l9Form.f k a0).bind fun ad1 => (if ad1 = true then ((spec_l9Kept.f).bind fun a7y => ((spec_l9At.f k a7y a0).bind fun ad2 => (some (decide (ad2 < 0))))) else (some false))
theorem spec_l9Name.mono : ∀ a0 k, LeO (spec_l9Name.f k a0) (spec_l9Name.f (k + 1) a0) := by
 intro a0 k; unfold spec_l9Name.f
 repeat' first
  | (with_reducible exact spec_l9At.mono _ _ _)
  | (with_reducible exact spec_l9Form.mono _ _)
  | (with_reducible exact LeO.refl _)
  | (with_reducible exact LeO.none _)
  | (with_reducible refine LeO.ite ?_ ?_)
  | (with_reducible refine LeO.bind ?_ (fun _ => ?_))
  | exact spec_l9At.mono _ _ _
  | exact spec_l9Form.mono _ _
  | exact LeO.none _
  | refine LeO.ite ?_ ?_
  | refine LeO.bind ?_ (fun _ => ?_)
set_option maxHeartbeats 8000000 in
set_option maxRecDepth 100000 in
theorem spec_l9Name.calls (k : Nat) (a0 : ByteArray) (r : Bool) (w : World) (h : spec_l9Name.f k a0 = some r) :
 Calls Try.prog 60 #[.string a0] w fun e w' => e = .returned (.bool r) ∧ Below w.heap.size w w' := by
 have HB := Aside0.mk (Below.refl w.heap.size w); have H : ((spec_l9Form.f k a0).bind fun ad1 => (if ad1 = true then ((spec_l9Kept.f).bind fun a7y => ((spec_l9At.f k a7y a0).bind fun ad2 => (some (decide (ad2 < 0))))) else (some false))) = some r := h; clear h; replace H := Option.bind_eq_some_iff.mp H; obtain ⟨ad1, ec, H⟩ := H; have A2 := Aside0.mk ec; clear ec
 by_cases c3 : ad1 = true
 ·subst c3; rw [if_pos rfl] at H; replace H := Option.bind_eq_some_iff.mp H; obtain ⟨a7y, fe, H⟩ := H; have A4 := Aside0.mk fe; clear fe; replace H := Option.bind_eq_some_iff.mp H; obtain ⟨ad2, fj, H⟩ := H; have A5 := Aside0.mk fj; clear fj; obtain rfl := Option.some.inj H
  go_enter Try.func60, Try.ntmps60
  go_wp2_with (first | ((with_reducible refine gate_callee (f := 65) rfl ?_); refine gl_ 4 Try.func65 #[.string a0] ?_; (with_reducible refine (spec_l9Form.calls k a0 true _ A2.out).mono ?_); rintro e w' ⟨rfl, ⟨nd, rfl⟩⟩; refine ⟨_, rfl, ?_⟩) | (go_at_call 66; (with_reducible refine (spec_l9Kept.calls  a7y _ A4.out).mono ?_); rintro e w6 ⟨bdw, rfl, aq, hb⟩; have akb := ak (Kd.R_lower aq (below_size (z_4 HB.out))); replace HB := ak (below_step (z_4 HB.out) hb); (try clear hb); (try clear hb2); (try clear hk); (try clear hi); (try clear aq); obtain ⟨Ao7, co7, eo7⟩ := Kd.R_slice akb.out; subst eo7) | (go_at_call 46; refine (spec_l9At.calls k _ _ a7y a0 ad2 _ (z_18 akb.out) ((Kd.R_reads' akb.out).2.1) A5.out).mono ?_; rintro e w' ⟨rfl, ⟨nd, rfl⟩⟩)); go_ret; exact ⟨z_17, z_4 HB.out⟩
 ·replace c3 := Bool.eq_false_iff.mpr c3; subst c3; rw [if_neg (show ¬ (false = true) by decide)] at H; obtain rfl := Option.some.inj H
  go_enter Try.func60, Try.ntmps60
  go_wp2_with (first | ((with_reducible refine gate_callee (f := 65) rfl ?_); refine gl_ 4 Try.func65 #[.string a0] ?_; (with_reducible refine (spec_l9Form.calls k a0 false _ A2.out).mono ?_); rintro e w' ⟨rfl, ⟨nd, rfl⟩⟩; refine ⟨_, rfl, ?_⟩)); go_ret; exact ⟨z_17, z_4 HB.out⟩
end Go.Proofs.Ytdphpmejjlgpnaa.PFnTreesBent

