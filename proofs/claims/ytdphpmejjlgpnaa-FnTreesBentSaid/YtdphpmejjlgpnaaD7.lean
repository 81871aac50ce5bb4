import Derived.Test.YtdphpmejjlgpnaaD0
import Derived.Test.YtdphpmejjlgpnaaD6
import Derived.Test.YtdphpmejjlgpnaaDZ
set_option linter.unusedVariables false
set_option linter.unusedSimpArgs false
set_option linter.unusedSectionVars false
namespace Go.Proofs.Ytdphpmejjlgpnaa.PFnTreesBent
open Go.RowKit Go.Proofs.YtdphpmejjlgpnaaW.PrintWords Go.Proofs.YtdphpmejjlgpnaaW.PrintLast Go.Proofs.YtdphpmejjlgpnaaW.PrintMore Go.Proofs.Ytdphpmejjlgpnaa.Short
attribute [local go_sem] max2_int min2_int max_two min_two max_three min_three max_four min_four
def spec_l1Byte.f (ah : List Int) (bs : Int) (bu : Int) : Option (Int × Int × Int) := if bs < (ah.length : Int) then (if 0 ≤ bs then (some (Go.bits .and .i64 (wrap64 ((Go.bits .and .i64 (Go.bits .xor .i64 ((wrap64 ((wrap64 (bu * 6364136223846793005)) + 1442695040888963407)) / 8589934592) ((wrap64 ((wrap64 (bu * 6364136223846793005)) + 1442695040888963407)) / 140737488355328)) 255) + (wrap64 (rd ah bs)))) 255, wrap64 (bs + 1), wrap64 ((wrap64 (bu * 6364136223846793005)) + 1442695040888963407))) else (none)) else (some (Go.bits .and .i64 (Go.bits .xor .i64 ((wrap64 ((wrap64 (bu * 6364136223846793005)) + 1442695040888963407)) / 8589934592) ((wrap64 ((wrap64 (bu * 6364136223846793005)) + 1442695040888963407)) / 140737488355328)) 255, bs, wrap64 ((wrap64 (bu * 6364136223846793005)) + 1442695040888963407)))
set_option maxHeartbeats 8000000 in
set_option maxRecDepth 100000 in
theorem spec_l1Byte.calls (g : Nat) (ah : List Int) (bs : Int) (bu : Int) (r1 : Int) (r2 : Int) (r3 : Int) (w0 w : World) (hI : IsS63 w0 w g ah bs bu) (hB : Below w0.heap.size w0 w) (h : spec_l1Byte.f ah bs bu = some (r1, r2, r3)) :
 Calls Try.prog 54 #[.pointer (some ⟨g, 0, none⟩)] w fun e w' => e = .returned (.int .i64 r1) ∧ IsS63 w0 w' g ah r2 r3 ∧ Below w0.heap.size w0 w' ∧ KeepBut w w' g none := by
 have aa := Aside0.mk hI; have HK := Aside0.mk (KeepBut.refl w g none); have HL := Aside0.mk hB.size; clear hI; have HW0 := Aside0.mk hB.size; have HB := Aside0.mk hB; clear hB; have H : (if bs < (ah.length : Int) then (if 0 ≤ bs then (some (Go.bits .and .i64 (wrap64 ((Go.bits .and .i64 (Go.bits .xor .i64 ((wrap64 ((wrap64 (bu * 6364136223846793005)) + 1442695040888963407)) / 8589934592) ((wrap64 ((wrap64 (bu * 6364136223846793005)) + 1442695040888963407)) / 140737488355328)) 255) + (wrap64 (rd ah bs)))) 255, wrap64 (bs + 1), wrap64 ((wrap64 (bu * 6364136223846793005)) + 1442695040888963407))) else (none)) else (some (Go.bits .and .i64 (Go.bits .xor .i64 ((wrap64 ((wrap64 (bu * 6364136223846793005)) + 1442695040888963407)) / 8589934592) ((wrap64 ((wrap64 (bu * 6364136223846793005)) + 1442695040888963407)) / 140737488355328)) 255, bs, wrap64 ((wrap64 (bu * 6364136223846793005)) + 1442695040888963407)))) = some (r1, r2, r3) := h
 clear h
 by_cases c2 : bs < (ah.length : Int)
 ·rw [if_pos c2] at H; have a1j := decide_eq_true c2; clear c2
  by_cases c3 : 0 ≤ bs
  ·rw [if_pos c3] at H; have mw := decide_eq_true c3; clear c3; simp only [Option.some.injEq, Prod.mk.injEq] at H; obtain ⟨rfl, rfl, rfl⟩ := H; obtain ⟨ASz4_0, cSz4_0, HGz4, hgz4, HSz4_0⟩ := aa.out; have a9y := cellS63_0 HGz4; have a9z := cellS63_1 HGz4; have aa0 := cellS63_2 HGz4; have aeg := blk_frozen HGz4 1; have aeh := blk_frozen HGz4 2; clear HGz4 hgz4; have aja : 0 ≤ (bs : Int) := of_decide_eq_true z_9; have ajb : bs < (ah.length : Int) := of_decide_eq_true z_9; obtain ⟨avw, avx, a7c⟩ := Kd.at_int HSz4_0 bs aja ajb; cases avx; have hn247_0 : avw.block ≠ g := Nat.ne_of_lt (Nat.lt_of_lt_of_le (by have := World.block_lt_of_cell? _ _ a7c; first | rwa [add_block] at this | exact this) (IsS63.ge aa.out)); replace a7c := pw_cell_below HB.out a7c; replace a7c := (cell_far (p := ⟨g, 2, none⟩) (by first | (rw [add_block]; exact hn247_0) | (show (Addr.add _ _).block ≠ _; rw [add_block]; exact hn247_0) | exact hn247_0) (.int .i64 (wrap64 ((wrap64 (bu * 6364136223846793005)) + 1442695040888963407)))).trans a7c
   (try have b6q := fun (n_ : Nat) => (show (((w.drewN n_).setCell ⟨g, 2, none⟩ (.int .i64 (wrap64 ((wrap64 (bu * 6364136223846793005)) + 1442695040888963407))))).cell? _ = some _ from a7c)); clear hn247_0; replace aja := eq_true aja; replace ajb := eq_true ajb
   go_enter Try.func54, Try.ntmps54
   go_wp2
   repeat (go_quiet (fail); try go_wp2)
   go_ret; exact ⟨z_17, z_33 aa.out, z_34 HB.out aa.out, z_35 HK.out⟩
  ·rw [if_neg c3] at H; exact absurd H (by simp)
 ·rw [if_neg c2] at H; have a1j := decide_eq_false c2; clear c2; simp only [Option.some.injEq, Prod.mk.injEq] at H; obtain ⟨rfl, rfl, rfl⟩ := H; obtain ⟨ASz5_0, cSz5_0, HGz5, hgz5, HSz5_0⟩ := aa.out; have xx := cellS63_0 HGz5; have xy := cellS63_1 HGz5; have xz := cellS63_2 HGz5; have a3f := blk_frozen HGz5 1; have a3g := blk_frozen HGz5 2; clear HGz5 hgz5
  go_enter Try.func54, Try.ntmps54
  go_wp2
  repeat (go_quiet (fail); try go_wp2)
  go_ret; exact ⟨z_17, z_33 aa.out, z_34 HB.out aa.out, z_35 HK.out⟩
def spec_l1Below.f (ah : List Int) (bs : Int) (bu : Int) (a1 : Int) : Option (Int × Int × Int) := if a1 ≤ 0 then (some (0, bs, bu)) else (if a1 ≤ 256 then ((spec_l1Byte.f ah bs bu).bind fun a3v => (if a1 = 0 then (none) else (some (Int.tmod a3v.1 a1, a3v.2.1, a3v.2.2)))) else ((spec_l1Byte.f ah bs bu).bind fun a3w => ((spec_l1Byte.f ah a3w.2.1 a3w.2.2).bind fun a3x => ((spec_l1Byte.f ah a3x.2.1 a3x.2.2).bind fun a3y => (if a1 = 0 then (none) else (some (Int.tmod (wrap64 ((wrap64 ((wrap64 (a3w.1 * 65536)) + (wrap64 (a3x.1 * 256)))) + a3y.1)) a1, a3y.2.1, a3y.2.2)))))))
set_option maxHeartbeats 8000000 in
set_option maxRecDepth 100000 in
theorem spec_l1Below.calls (g : Nat) (ah : List Int) (bs : Int) (bu : Int) (a1 : Int) (r1 : Int) (r2 : Int) (r3 : Int) (w0 w : World) (hI : IsS63 w0 w g ah bs bu) (hB : Below w0.heap.size w0 w) (h : spec_l1Below.f ah bs bu a1 = some (r1, r2, r3)) :
 Calls Try.prog 47 #[.pointer (some ⟨g, 0, none⟩), .int .i64 a1] w fun e w' => e = .returned (.int .i64 r1) ∧ IsS63 w0 w' g ah r2 r3 ∧ Below w0.heap.size w0 w' ∧ KeepBut w w' g none := by
 have aa := Aside0.mk hI; have HK := Aside0.mk (KeepBut.refl w g none); have HL := Aside0.mk hB.size; clear hI; have HW0 := Aside0.mk hB.size; have HB := Aside0.mk hB; clear hB; have H : (if a1 ≤ 0 then (some (0, bs, bu)) else (if a1 ≤ 256 then ((spec_l1Byte.f ah bs bu).bind fun a3v => (if a1 = 0 then (none) else (some (Int.tmod a3v.1 a1, a3v.2.1, a3v.2.2)))) else ((spec_l1Byte.f ah bs bu).bind fun a3w => ((spec_l1Byte.f ah a3w.2.1 a3w.2.2).bind fun a3x => ((spec_l1Byte.f ah a3x.2.1 a3x.2.2).bind fun a3y => (if a1 = 0 then (none) else (some (Int.tmod (wrap64 ((wrap64 ((wrap64 (a3w.1 * 65536)) + (wrap64 (a3x.1 * 256)))) + a3y.1)) a1, a3y.2.1, a3y.2.2)))))))) = some (r1, r2, r3) := h; clear h
 by_cases c3 : a1 ≤ 0
 ·rw [if_pos c3] at H; have mw := decide_eq_true c3; clear c3; simp only [Option.some.injEq, Prod.mk.injEq] at H; obtain ⟨rfl, rfl, rfl⟩ := H
  go_enter Try.func47, Try.ntmps47
  go_wp2; go_ret; exact ⟨z_17, z_33 aa.out, z_34 HB.out aa.out, z_35 HK.out⟩
 ·rw [if_neg c3] at H; have mw := decide_eq_false c3; clear c3
  by_cases c4 : a1 ≤ 256
  ·rw [if_pos c4] at H; have kj := decide_eq_true c4; clear c4; replace H := Option.bind_eq_some_iff.mp H; obtain ⟨⟨avy, avz, aw0⟩, fj, H⟩ := H
   try dsimp only at H
   have A5 := Aside0.mk fj; clear fj
   by_cases c6 : a1 = 0
   ·rw [if_pos c6] at H; exact absurd H (by simp)
   ·rw [if_neg c6] at H; have nw : (a1 == 0) = false := beq_eq_false_iff_ne.mpr c6; have aly : (a1 != 0) = true := bne_iff_ne.mpr c6; simp only [Option.some.injEq, Prod.mk.injEq] at H; obtain ⟨rfl, rfl, rfl⟩ := H
    go_enter Try.func47, Try.ntmps47
    go_wp2_with (first | ((with_reducible refine gate_callee (f := 54) rfl ?_); refine gl_ 13 Try.func54 #[.pointer (some ⟨g, 0, none⟩)] ?_; refine (spec_l1Byte.calls g ah bs bu avy avz aw0 w0 _ (z_33 aa.out) (z_34 HB.out aa.out) A5.out).mono ?_; rintro e w7 ⟨rfl, hi, hb, hk⟩; refine ⟨_, rfl, ?_⟩; replace HK := ak (KeepBut.trans (z_35 HK.out) hk (.inl rfl)); replace HB := ak hb; replace aa := ak hi; (try clear hb); (try clear hb2); (try clear hk); (try clear hi))); go_ret; exact ⟨z_17, z_33 aa.out, z_34 HB.out aa.out, z_35 HK.out⟩
  ·rw [if_neg c4] at H; have kj := decide_eq_false c4; clear c4; replace H := Option.bind_eq_some_iff.mp H; obtain ⟨⟨aw1, anu, anv⟩, qe, H⟩ := H
   try dsimp only at H
   have A8 := Aside0.mk qe; clear qe; replace H := Option.bind_eq_some_iff.mp H; obtain ⟨⟨aw2, anw, anx⟩, jn, H⟩ := H
   try dsimp only at H
   have A9 := Aside0.mk jn; clear jn; replace H := Option.bind_eq_some_iff.mp H; obtain ⟨⟨aw3, aw4, aw5⟩, ki, H⟩ := H
   try dsimp only at H
   have lx := Aside0.mk ki; clear ki
   by_cases dw : a1 = 0
   ·rw [if_pos dw] at H; exact absurd H (by simp)
   ·rw [if_neg dw] at H; have ly : (a1 == 0) = false := beq_eq_false_iff_ne.mpr dw; have tn : (a1 != 0) = true := bne_iff_ne.mpr dw; simp only [Option.some.injEq, Prod.mk.injEq] at H; obtain ⟨rfl, rfl, rfl⟩ := H
    go_enter Try.func47, Try.ntmps47
    go_wp2_with (first | ((with_reducible refine gate_callee (f := 54) rfl ?_); refine gl_ 17 Try.func54 #[.pointer (some ⟨g, 0, none⟩)] ?_; refine (spec_l1Byte.calls g ah bs bu aw1 anu anv w0 _ (z_33 aa.out) (z_34 HB.out aa.out) A8.out).mono ?_; rintro e xi ⟨rfl, hi, hb, hk⟩; (try clear A8); refine ⟨_, rfl, ?_⟩; replace HK := ak (KeepBut.trans (z_35 HK.out) hk (.inl rfl)); replace HB := ak hb; replace aa := ak hi; (try clear hb); (try clear hb2); (try clear hk); (try clear hi)) | ((with_reducible refine gate_callee (f := 54) rfl ?_); refine gl_ 19 Try.func54 #[.pointer (some ⟨g, 0, none⟩)] ?_; refine (spec_l1Byte.calls g ah anu anv aw2 anw anx w0 _ (z_33 aa.out) (z_34 HB.out aa.out) A9.out).mono ?_; rintro e w13 ⟨rfl, hi, hb, hk⟩; (try clear A9); refine ⟨_, rfl, ?_⟩; replace HK := ak (KeepBut.trans (z_35 HK.out) hk (.inl rfl)); replace HB := ak hb; replace aa := ak hi; (try clear hb); (try clear hb2); (try clear hk); (try clear hi)) | ((with_reducible refine gate_callee (f := 54) rfl ?_); refine gl_ 21 Try.func54 #[.pointer (some ⟨g, 0, none⟩)] ?_; refine (spec_l1Byte.calls g ah anw anx aw3 aw4 aw5 w0 _ (z_33 aa.out) (z_34 HB.out aa.out) lx.out).mono ?_; rintro e w14 ⟨rfl, hi, hb, hk⟩; (try clear lx); refine ⟨_, rfl, ?_⟩; replace HK := ak (KeepBut.trans (z_35 HK.out) hk (.inl rfl)); replace HB := ak hb; replace aa := ak hi; (try clear hb); (try clear hb2); (try clear hk); (try clear hi)))
    go_ret; exact ⟨z_17, z_33 aa.out, z_34 HB.out aa.out, z_35 HK.out⟩
def spec_Wrap.f (a0 : Int) : Option (Int) := some (Go.bits .and .i64 a0 65535)
set_option maxHeartbeats 8000000 in
set_option maxRecDepth 100000 in
theorem spec_Wrap.calls (a0 : Int) (r : Int) (w : World) (h : spec_Wrap.f a0 = some r) :
 Calls Try.prog 55 #[.int .i64 a0] w fun e w' => e = .returned (.int .i64 r) ∧ Drawn0 w w' := by
 have H : (some (Go.bits .and .i64 a0 65535)) = some r := h; clear h; obtain rfl := Option.some.inj H
 go_enter Try.func55, Try.ntmps55
 go_wp2; go_ret; exact ⟨z_1, z_2⟩
def spec_Oct.l0 : Nat → Int → ByteArray → Option (ByteArray)
 | 0, _, _ => none
 | k + 1, x0, x3 => if x0 > 7 then ((some (([(wrap64 (48 + (Go.bits .and .i64 (x0 / 8) 7))) % 256] : List Int) : List Int)).bind fun a1k => (if (strOfNums a1k).size + x3.size ≤ 9223372036854775807 then (spec_Oct.l0 k (x0 / 8) ((strOfNums a1k) ++ x3)) else (none))) else (some x3)
def spec_Oct.f (k : Nat) (a0 : Int) : Option (ByteArray) := (spec_Wrap.f a0).bind fun qj => (spec_Oct.l0 k qj (strOfNums (([(wrap64 (48 + (Go.bits .and .i64 qj 7))) % 256] : List Int))))
theorem spec_Oct.mono_l : ∀ k, (∀ y0 y1, LeO (spec_Oct.l0 k y0 y1) (spec_Oct.l0 (k + 1) y0 y1))
 | 0 => fun _ _ r h => by simp [spec_Oct.l0] at h
 | k + 1 => by
  have ih0 := spec_Oct.mono_l k
  ·intro y0 y1; unfold spec_Oct.l0
   repeat' first
   | (with_reducible exact ih0 _ _)
   | (with_reducible exact LeO.refl _)
   | (with_reducible exact LeO.none _)
   | (with_reducible refine LeO.ite ?_ ?_)
   | (with_reducible refine LeO.bind ?_ (fun _ => ?_))
   | exact ih0 _ _
   | exact LeO.none _
   | refine LeO.ite ?_ ?_
   | refine LeO.bind ?_ (fun _ => ?_)
theorem spec_Oct.mono : ∀ a0 k, LeO (spec_Oct.f k a0) (spec_Oct.f (k + 1) a0) := by
 intro a0 k; have ih0 := spec_Oct.mono_l k; unfold spec_Oct.f
 repeat' first
  | (with_reducible exact ih0 _ _)
  | (with_reducible exact LeO.refl _)
  | (with_reducible exact LeO.none _)
  | (with_reducible refine LeO.ite ?_ ?_)
  | (with_reducible refine LeO.bind ?_ (fun _ => ?_))
  | exact ih0 _ _
  | exact LeO.none _
  | refine LeO.ite ?_ ?_
  | refine LeO.bind ?_ (fun _ => ?_)
set_option maxHeartbeats 8000000 in
set_option maxRecDepth 100000 in
theorem spec_Oct.calls (k : Nat) (a0 : Int) (r : ByteArray) (w : World) (h : spec_Oct.f k a0 = some r) :
 Calls Try.prog 48 #[.int .i64 a0] w fun e w' => e = .returned (.string r) ∧ Below w.heap.size w w' := by
 have HB := Aside0.mk (Below.refl w.heap.size w); have H : ((spec_Wrap.f a0).bind fun qj => (spec_Oct.l0 k qj (strOfNums (([(wrap64 (48 + (Go.bits .and .i64 qj 7))) % 256] : List Int))))) = some r := h; clear h; replace H := Option.bind_eq_some_iff.mp H; obtain ⟨qj, ec, H⟩ := H; have A2 := Aside0.mk ec; clear ec; obtain ⟨anz, ab4⟩ : ∃ y_ : List Int, y_ = (([(wrap64 (48 + (Go.bits .and .i64 qj 7))) % 256] : List Int)) := ⟨_, rfl⟩; replace H : (spec_Oct.l0 k qj (strOfNums anz)) = some r := by first | (rw [ab4]; with_reducible exact H) | (have H2_ := (Option.bind_some _ _).symm.trans H; rw [ab4]; with_reducible exact H2_) | (have H2_ := (Option.bind_some _ _).symm.trans H; with_reducible exact H2_) | with_reducible exact H | (rw [ab4]; exact H) | exact H
 have ao0 := Aside0.mk ab4; clear ab4; have H' := Aside0.mk H; clear H
 go_enter Try.func48, Try.ntmps48
 go_wp2_with (first | ((with_reducible refine gate_callee (f := 55) rfl ?_); refine gl_ 5 Try.func55 #[.int .i64 a0] ?_; (with_reducible refine (spec_Wrap.calls a0 qj _ A2.out).mono ?_); rintro e w' ⟨rfl, ⟨nd, rfl⟩⟩; refine ⟨_, rfl, ?_⟩) | ((with_reducible refine gate_dst (N := 10) rfl ?_); refine Kd.R_lit (Kd.int .u8) _ 5 ?hg (N := 10) ?hd (xs := ([(wrap64 (48 + (Go.bits .and .i64 qj 7))) % 256] : List Int)) (inner := [.int .u8 ((wrap64 (48 + (Go.bits .and .i64 qj 7))) % 256)]) (ok := fun _ => True) (okp := fun _ => True) ?hr ?hp (fun _ hk => hk) trivial (Below.refl _ _) (Nat.le_refl _) (by simp) ?_; (case hd => rfl); (case hg => rfl); (case hr => first | (go_simp; done) | (go_simp; rfl)); (case hp => exact (Reps.one (show Kd.M (Kd.int .u8) _ _ _ ((wrap64 (48 + (Go.bits .and .i64 qj 7))) % 256) [.int .u8 ((wrap64 (48 + (Go.bits .and .i64 qj 7))) % 256)] from rfl) (Reps.none _ _))); intro b6r w3 kl hb hg_ hnew_; clear hg_ hnew_; (first | rw [← ao0.out] at kl | (simp only [Int.reduceToNat] at kl; rw [← ao0.out] at kl)); have aw6 := ak (Kd.R_lower kl (below_size (z_4 HB.out))); replace HB := ak (below_step (z_4 HB.out) hb); clear hb kl; have hcv5 := own_string (P := Try.prog) Try.underlying22 Try.underlying5 Try.underlying9 (Kd.own_of_R aw6.out)))
 go_loopg [0, 3] k (fun kq v0 v3 w' => ∃ (rq : Int) (cb : ByteArray), v0 = .int .i64 rq ∧ v3 = .string cb ∧ Aside0 (spec_Oct.l0 kq rq cb = some r) ∧ Aside0 (kq ≤ k) ∧ Aside0 (Below w.heap.size w w'))
 case atStart => exact ⟨(qj), (strOfNums anz), z_6, z_6, H', ⟨Nat.le_refl _⟩, ⟨z_4 HB.out⟩⟩
 case round =>
  clear H'; (try clear hcv5); obtain ⟨rq, cb, rfl, rfl, HA, HK1, HB⟩ := hrel
  cases gk with
  | zero => exact absurd HA.out (by simp [spec_Oct.l0])
  | succ k1 =>
   have H := HA.out; clear HA; simp only [spec_Oct.l0] at H
   by_cases c6 : rq > 7
   ·rw [if_pos c6] at H; have nw : decide (7 < rq) = true := decide_eq_true c6; clear c6; obtain ⟨a1k, ab5⟩ : ∃ y_ : List Int, y_ = (([(wrap64 (48 + (Go.bits .and .i64 (rq / 8) 7))) % 256] : List Int)) := ⟨_, rfl⟩; replace H : (if (strOfNums a1k).size + cb.size ≤ 9223372036854775807 then (spec_Oct.l0 k1 (rq / 8) ((strOfNums a1k) ++ cb)) else (none)) = some r := by first | (rw [ab5]; with_reducible exact H) | (have H2_ := (Option.bind_some _ _).symm.trans H; rw [ab5]; with_reducible exact H2_) | (have H2_ := (Option.bind_some _ _).symm.trans H; with_reducible exact H2_) | with_reducible exact H | (rw [ab5]; exact H) | exact H
    have ao1 := Aside0.mk ab5; clear ab5
    by_cases c7 : (strOfNums a1k).size + cb.size ≤ 9223372036854775807
    ·rw [if_pos c7] at H; have pk := eq_true c7; have a6q := decide_eq_true c7
     try have b6s : (9223372036854775807 < (strOfNums a1k).size + cb.size) = False := eq_false (Nat.not_lt.2 c7)
     have H' := Aside0.mk H; clear H; go_wp2_with (first | ((with_reducible refine gate_dst (N := 20) rfl ?_); refine Kd.R_lit (Kd.int .u8) _ 5 ?hg (N := 20) ?hd (xs := ([(wrap64 (48 + (Go.bits .and .i64 (rq / 8) 7))) % 256] : List Int)) (inner := [.int .u8 ((wrap64 (48 + (Go.bits .and .i64 (rq / 8) 7))) % 256)]) (ok := fun _ => True) (okp := fun _ => True) ?hr ?hp (fun _ hk => hk) trivial (Below.refl _ _) (Nat.le_refl _) (by simp) ?_; (case hd => rfl); (case hg => rfl); (case hr => first | (go_simp; done) | (go_simp; rfl)); (case hp => exact (Reps.one (show Kd.M (Kd.int .u8) _ _ _ ((wrap64 (48 + (Go.bits .and .i64 (rq / 8) 7))) % 256) [.int .u8 ((wrap64 (48 + (Go.bits .and .i64 (rq / 8) 7))) % 256)] from rfl) (Reps.none _ _))); intro b6t w8 ho9 hb hg_ hnew_; clear hg_ hnew_; (first | rw [← ao1.out] at ho9 | (simp only [Int.reduceToNat] at ho9; rw [← ao1.out] at ho9)); have aw7 := ak (Kd.R_lower ho9 (below_size (z_4 HB.out))); replace HB := ak (below_step (z_4 HB.out) hb); clear hb ho9; have hcv10 := own_string (P := Try.prog) Try.underlying22 Try.underlying5 Try.underlying9 (Kd.own_of_R aw7.out)))
     go_roundg k1
     case measure => have := HK1.out; omega
     case rel => exact ⟨(rq / 8), ((strOfNums a1k) ++ cb), z_6, z_6, H', ⟨by have := HK1.out; omega⟩, ⟨z_4 HB.out⟩⟩
    ·rw [if_neg c7] at H; exact absurd H (by simp)
   ·rw [if_neg c6] at H; have nw : decide (7 < rq) = false := decide_eq_false c6; clear c6; obtain rfl := Option.some.inj H; go_wp2; go_ret; exact ⟨z_17, z_4 HB.out⟩
def spec_l1Once.f (ah : List Int) (bs : Int) (bu : Int) (a1 : Int) : Option (Bool × Int × Int) := (spec_l1Below.f ah bs bu a1).bind fun a3z => (some ((a3z.1 == 0), a3z.2.1, a3z.2.2))
set_option maxHeartbeats 8000000 in
set_option maxRecDepth 100000 in
theorem spec_l1Once.calls (g : Nat) (ah : List Int) (bs : Int) (bu : Int) (a1 : Int) (r1 : Bool) (r2 : Int) (r3 : Int) (w0 w : World) (hI : IsS63 w0 w g ah bs bu) (hB : Below w0.heap.size w0 w) (h : spec_l1Once.f ah bs bu a1 = some (r1, r2, r3)) :
 Calls Try.prog 49 #[.pointer (some ⟨g, 0, none⟩), .int .i64 a1] w fun e w' => e = .returned (.bool r1) ∧ IsS63 w0 w' g ah r2 r3 ∧ Below w0.heap.size w0 w' ∧ KeepBut w w' g none := by
 have aa := Aside0.mk hI; have HK := Aside0.mk (KeepBut.refl w g none); have HL := Aside0.mk hB.size; clear hI; have HW0 := Aside0.mk hB.size; have HB := Aside0.mk hB; clear hB; have H : ((spec_l1Below.f ah bs bu a1).bind fun a3z => (some ((a3z.1 == 0), a3z.2.1, a3z.2.2))) = some (r1, r2, r3) := h; clear h; replace H := Option.bind_eq_some_iff.mp H; obtain ⟨⟨aw8, aw9, awa⟩, gy, H⟩ := H
 try dsimp only at H
 have A3 := Aside0.mk gy; clear gy; simp only [Option.some.injEq, Prod.mk.injEq] at H; obtain ⟨rfl, rfl, rfl⟩ := H
 go_enter Try.func49, Try.ntmps49
 go_wp2_with (first | ((with_reducible refine gate_callee (f := 47) rfl ?_); refine gl_ 7 Try.func47 #[.pointer (some ⟨g, 0, none⟩), .int .i64 a1] ?_; refine (spec_l1Below.calls g ah bs bu a1 aw8 aw9 awa w0 _ (z_33 aa.out) (z_34 HB.out aa.out) A3.out).mono ?_; rintro e w4 ⟨rfl, hi, hb, hk⟩; refine ⟨_, rfl, ?_⟩; replace HK := ak (KeepBut.trans (z_35 HK.out) hk (.inl rfl)); replace HB := ak hb; replace aa := ak hi; (try clear hb); (try clear hb2); (try clear hk); (try clear hi))); go_ret; exact ⟨z_17, z_33 aa.out, z_34 HB.out aa.out, z_35 HK.out⟩
end Go.Proofs.Ytdphpmejjlgpnaa.PFnTreesBent

