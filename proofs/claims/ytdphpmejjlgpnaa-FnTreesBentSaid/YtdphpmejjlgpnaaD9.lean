import Derived.Test.YtdphpmejjlgpnaaD0
import Derived.Test.YtdphpmejjlgpnaaD6
import Derived.Test.YtdphpmejjlgpnaaD7
import Derived.Test.YtdphpmejjlgpnaaDZ
set_option linter.unusedVariables false
set_option linter.unusedSimpArgs false
set_option linter.unusedSectionVars false
namespace Go.Proofs.Ytdphpmejjlgpnaa.PFnTreesBent
open Go.RowKit Go.Proofs.YtdphpmejjlgpnaaW.PrintWords Go.Proofs.YtdphpmejjlgpnaaW.PrintLast Go.Proofs.YtdphpmejjlgpnaaW.PrintMore Go.Proofs.Ytdphpmejjlgpnaa.Short
attribute [local go_sem] max2_int min2_int max_two min_two max_three min_three max_four min_four
def spec_l1Str.f (ah : List Int) (bs : Int) (bu : Int) (l1 : List ByteArray) : Option (ByteArray × Int × Int) := (spec_l1Below.f ah bs bu (l1.length : Int)).bind fun un => (if 0 ≤ un.1 then (if un.1 < (l1.length : Int) then (some (rdOf ByteArray.empty l1 un.1, un.2.1, un.2.2)) else (none)) else (none))
set_option maxHeartbeats 8000000 in
set_option maxRecDepth 100000 in
theorem spec_l1Str.calls (g : Nat) (ah : List Int) (bs : Int) (bu : Int) (A1 : Option Addr) (c1 : Nat) (l1 : List ByteArray) (r1 : ByteArray) (r2 : Int) (r3 : Int) (w0 w : World) (hI : IsS63 w0 w g ah bs bu) (hB : Below w0.heap.size w0 w) (hr1 : Kd.C Kd.string w A1 l1.length l1) (hc1 : l1.length ≤ c1) (hf1 : ∀ ad, A1 = some ad → 0 < l1.length → ad.block ≠ g) (h : spec_l1Str.f ah bs bu l1 = some (r1, r2, r3)) :
 Calls Try.prog 42 #[.pointer (some ⟨g, 0, none⟩), .slice A1 l1.length c1] w fun e w' => e = .returned (.string r1) ∧ IsS63 w0 w' g ah r2 r3 ∧ Below w0.heap.size w0 w' ∧ KeepBut w w' g none := by
 have el := Aside0.mk hr1; have ex := Aside0.mk hc1; clear hr1 hc1; have aa := Aside0.mk hI; have HK := Aside0.mk (KeepBut.refl w g none); have HL := Aside0.mk hB.size; clear hI; have HW0 := Aside0.mk hB.size; have HB := Aside0.mk hB; clear hB; have H : ((spec_l1Below.f ah bs bu (l1.length : Int)).bind fun un => (if 0 ≤ un.1 then (if un.1 < (l1.length : Int) then (some (rdOf ByteArray.empty l1 un.1, un.2.1, un.2.2)) else (none)) else (none))) = some (r1, r2, r3) := h; clear h; replace H := Option.bind_eq_some_iff.mp H; obtain ⟨⟨a7i, axg, axh⟩, gy, H⟩ := H
 try dsimp only at H
 have A3 := Aside0.mk gy; clear gy
 by_cases c4 : 0 ≤ a7i
 ·rw [if_pos c4] at H; have kj := decide_eq_true c4; clear c4
  by_cases c5 : a7i < (l1.length : Int)
  ·rw [if_pos c5] at H; have kz := decide_eq_true c5; clear c5; simp only [Option.some.injEq, Prod.mk.injEq] at H; obtain ⟨rfl, rfl, rfl⟩ := H
   go_enter Try.func42, Try.ntmps42
   go_wp2_with (first | ((with_reducible refine gate_callee (f := 47) rfl ?_); refine gl_ 9 Try.func47 #[.pointer (some ⟨g, 0, none⟩), .int .i64 (l1.length : Int)] ?_; refine (spec_l1Below.calls g ah bs bu (l1.length : Int) a7i axg axh w0 _ (z_33 aa.out) (z_34 HB.out aa.out) A3.out).mono ?_; rintro e w6 ⟨rfl, hi, hb, hk⟩; refine ⟨_, rfl, ?_⟩; replace HK := ak (KeepBut.trans (z_35 HK.out) hk (.inl rfl)); replace HB := ak hb; replace aa := ak hi; (try clear hb); (try clear hb2); (try clear hk); (try clear hi); have ajl : 0 ≤ (a7i : Int) := of_decide_eq_true z_9; have ajm : a7i < (l1.length : Int) := of_decide_eq_true z_9; obtain ⟨axi, axj, aox⟩ := Kd.at_string el.out a7i ajl ajm; cases axj; replace aox := keep_cell HK.out aox (by first | (rw [add_block]; exact hf1 _ rfl (by omega)) | exact hf1 _ rfl (by omega) | exact hf1 axi rfl (by omega)); replace ajl := eq_true ajl; replace ajm := eq_true ajm))
   go_ret; exact ⟨z_17, z_33 aa.out, z_34 HB.out aa.out, z_35 HK.out⟩
  ·rw [if_neg c5] at H; exact absurd H (by simp)
 ·rw [if_neg c4] at H; exact absurd H (by simp)
end Go.Proofs.Ytdphpmejjlgpnaa.PFnTreesBent

