import Derived.Test.YtdphpmejjlgpnaaD0
import Derived.Test.YtdphpmejjlgpnaaD11
import Derived.Test.YtdphpmejjlgpnaaD12
import Derived.Test.YtdphpmejjlgpnaaDZ
set_option linter.unusedVariables false
set_option linter.unusedSimpArgs false
set_option linter.unusedSectionVars false
namespace Go.Proofs.Ytdphpmejjlgpnaa.PFnTreesBent
open Go.RowKit Go.Proofs.YtdphpmejjlgpnaaW.PrintWords Go.Proofs.YtdphpmejjlgpnaaW.PrintLast Go.Proofs.YtdphpmejjlgpnaaW.PrintMore Go.Proofs.Ytdphpmejjlgpnaa.Short
attribute [local go_sem] max2_int min2_int max_two min_two max_three min_three max_four min_four
open Go.Proofs.Ytdphpmejjlgpnaa.Short
mutual
def spec_SegOk.wk : Nat → List ByteArray → List ByteArray → Bool → ByteArray → List ByteArray → List S27 → Int → Option (List ByteArray × List ByteArray × Bool)
 | 0, _, _, _, _, _, _, _ => none
 | k + 1, nm, md, bad, n, m, ks, dp => if bad = true then (some (nm, md, true)) else (if dp > 4 then (some (nm, md, true)) else ((spec_l9Name.f k n).bind fun q => (if q = true then ((spec_l9At.f k nm n).bind fun i => (if i ≥ 0 then (some (nm, md, true)) else (if (m.length : Int) > 6 then (some (nm, md, true)) else (if nm.length < 8796093022208 then (spec_SegOk.wm k (nm ++ [n]) md false m ks dp 0) else (none))))) else (some (nm, md, true)))))
def spec_SegOk.wm : Nat → List ByteArray → List ByteArray → Bool → List ByteArray → List S27 → Int → Int → Option (List ByteArray × List ByteArray × Bool)
 | 0, _, _, _, _, _, _, _ => none
 | k + 1, nm, md, bad, m, ks, dp, i => if i < (m.length : Int) then (if 0 ≤ i then ((spec_l9Name.f k (rdOf ByteArray.empty m i)).bind fun q => (if md.length < 8796093022208 then (if q = true then ((spec_l9At.f k md (rdOf ByteArray.empty m i)).bind fun j => (if j ≥ 0 then (spec_SegOk.wm k nm (md ++ [rdOf ByteArray.empty m i]) true m ks dp (wrap64 (i + 1))) else (spec_SegOk.wm k nm (md ++ [rdOf ByteArray.empty m i]) bad m ks dp (wrap64 (i + 1))))) else (spec_SegOk.wm k nm (md ++ [rdOf ByteArray.empty m i]) true m ks dp (wrap64 (i + 1)))) else (none))) else (none)) else (spec_SegOk.wl k nm md bad ks dp 0)
def spec_SegOk.wl : Nat → List ByteArray → List ByteArray → Bool → List S27 → Int → Int → Option (List ByteArray × List ByteArray × Bool)
 | 0, _, _, _, _, _, _ => none
 | k + 1, nm, md, bad, ks, dp, i => if i < (ks.length : Int) then (if 0 ≤ i then ((spec_SegOk.wk k nm md bad ((rd_T27 ks i).f0) ((rd_T27 ks i).f1) ((rd_T27 ks i).f2) (wrap64 (dp + 1))).bind fun t => (spec_SegOk.wl k t.1 t.2.1 t.2.2 ks dp (wrap64 (i + 1)))) else (none)) else (some (nm, md, bad))
end
theorem spec_SegOk.mono_l : ∀ k, (∀ y0 y1 y2 y3 y4 y5 y6, LeO (spec_SegOk.wk k y0 y1 y2 y3 y4 y5 y6) (spec_SegOk.wk (k + 1) y0 y1 y2 y3 y4 y5 y6)) ∧ (∀ y0 y1 y2 y3 y4 y5 y6, LeO (spec_SegOk.wm k y0 y1 y2 y3 y4 y5 y6) (spec_SegOk.wm (k + 1) y0 y1 y2 y3 y4 y5 y6)) ∧ (∀ y0 y1 y2 y3 y4 y5, LeO (spec_SegOk.wl k y0 y1 y2 y3 y4 y5) (spec_SegOk.wl (k + 1) y0 y1 y2 y3 y4 y5))
 | 0 => ⟨fun _ _ _ _ _ _ _ r h => by simp [spec_SegOk.wk] at h, fun _ _ _ _ _ _ _ r h => by simp [spec_SegOk.wm] at h, fun _ _ _ _ _ _ r h => by simp [spec_SegOk.wl] at h⟩
 | k + 1 => by
  obtain ⟨ih0, ih1, ih2⟩ := spec_SegOk.mono_l k; refine ⟨?_, ?_, ?_⟩
  all_goals
   intros
   first | unfold spec_SegOk.wk | unfold spec_SegOk.wm | unfold spec_SegOk.wl
   repeat' first
   | (with_reducible exact ih0 _ _ _ _ _ _ _)
   | (with_reducible exact ih1 _ _ _ _ _ _ _)
   | (with_reducible exact ih2 _ _ _ _ _ _)
   | (with_reducible exact spec_l9Name.mono _ _)
   | (with_reducible exact spec_l9At.mono _ _ _)
   | (with_reducible exact LeO.refl _)
   | (with_reducible refine LeO.ite ?_ ?_)
   | (with_reducible refine LeO.bind ?_ (fun _ => ?_))
def spec_SegOk.f (k : Nat) (n : ByteArray) (m : List ByteArray) (ks : List S27) : Option Bool := (spec_SegOk.wk k [] [] false n m ks 1).bind fun t => (some (!t.2.2 && decide ((t.1.length : Int) ≤ 12)))
theorem spec_SegOk.mono : ∀ n m ks k, LeO (spec_SegOk.f k n m ks) (spec_SegOk.f (k + 1) n m ks) := by
 intro n m ks k; unfold spec_SegOk.f; exact LeO.bind ((spec_SegOk.mono_l k).1 _ _ _ _ _ _ _) (fun _ => LeO.refl _)
structure spec_SegOk.Zs (w0 wi w : World) (g g4 : Nat) (vn vm : Value) (nm md : List ByteArray) (bad : Bool) (cs4 : Array Value) : Prop where
 blk : w.heap[g]? = some (.cells #[vn, vm, .bool bad] 72 (0, 0))
 blk4 : w.heap[g4]? = some (.cells cs4 27 (0, 0))
 hN : Kd.R Kd.string 9 w w0.heap.size (fun k_ => some k_ ≠ vm.ownBlock) vn nm
 hM : Kd.R Kd.string 9 w w0.heap.size (fun _ => True) vm md
 ge : w0.heap.size ≤ g
 ge4 : w0.heap.size ≤ g4
 hB : Below w0.heap.size w0 w
 fr : ∀ (j : Nat) cs, wi.heap[j]? = some (.cells cs 27 (0, 0)) → w.heap[j]? = some (.cells cs 27 (0, 0))
section
variable {w0 wi w w1 : World} {g g4 : Nat} {vn vm v1 : Value} {nm md : List ByteArray} {bad : Bool} {cs4 : Array Value} {l2 : List ByteArray}
theorem spec_SegOk.Zs.below (h : spec_SegOk.Zs w0 wi w g g4 vn vm nm md bad cs4) (hb : Below w.heap.size w w1) : spec_SegOk.Zs w0 wi w1 g g4 vn vm nm md bad cs4 :=
 ⟨blk_below h.blk hb, blk_below h.blk4 hb, Kd.R_below h.hN hb, Kd.R_below h.hM hb, h.ge, h.ge4, below_step h.hB hb, fun j cs hj => blk_below (h.fr j cs hj) hb⟩
theorem spec_SegOk.ne27 {W : World} {j k : Nat} {a b : Array Value} {s t : Nat} (h : W.heap[j]? = some (.cells a s (0, 0))) (h2 : W.heap[k]? = some (.cells b t (0, 0))) (hst : s ≠ t) : j ≠ k := fun e => by
 subst e; rw [h] at h2
 injection h2 with h2
 injection h2 with _ h3
 exact hst h3
theorem spec_SegOk.Zs.bad_ (h : spec_SegOk.Zs w0 wi w g g4 vn vm nm md bad cs4) : spec_SegOk.Zs w0 wi (w.setCell ⟨g, 2, none⟩ (.bool true)) g g4 vn vm nm md true cs4 :=
 ⟨blk_put h.blk 2 _ rfl, blk_far h.blk4 (spec_SegOk.ne27 h.blk4 h.blk (by decide)) _, Kd.R_set h.hN h.blk (by decide) _ _, Kd.R_set h.hM h.blk (by decide) _ _, h.ge, h.ge4, below_set h.hB h.ge,
  fun j cs hj => blk_far (h.fr j cs hj) (spec_SegOk.ne27 (h.fr j cs hj) h.blk (by decide)) _⟩
theorem spec_SegOk.Zs.name_ (h : spec_SegOk.Zs w0 wi w g g4 vn vm nm md bad cs4) (ho : Kd.R Kd.string 9 w1 w0.heap.size (fun k_ => some k_ ≠ vm.ownBlock) v1 l2) (hb : Below w0.heap.size w0 w1) (hg : w.grownBy w1 vn.ownBlock) :
 spec_SegOk.Zs w0 wi (w1.setCell ⟨g, 0, none⟩ v1) g g4 v1 vm l2 md bad cs4 := by
 have b1 := blk_grown h.blk hg (Kd.R_ne h.hN h.blk (by decide)); have b4 := blk_grown h.blk4 hg (Kd.R_ne h.hN h.blk4 (by decide)); have m1 := Kd.R_grown2 h.hM rfl hg h.hN.1
 exact ⟨blk_put b1 0 _ rfl, blk_far b4 (spec_SegOk.ne27 b4 b1 (by decide)) _, Kd.R_set ho b1 (by decide) _ _, Kd.R_set m1 b1 (by decide) _ _, h.ge, h.ge4, below_set hb h.ge,
  fun j cs hj => blk_far (blk_grown (h.fr j cs hj) hg (Kd.R_ne h.hN (h.fr j cs hj) (by decide))) (spec_SegOk.ne27 (blk_grown (h.fr j cs hj) hg (Kd.R_ne h.hN (h.fr j cs hj) (by decide))) b1 (by decide)) _⟩
theorem spec_SegOk.Zs.mod_ (h : spec_SegOk.Zs w0 wi w g g4 vn vm nm md bad cs4) (ho : Kd.R Kd.string 9 w1 w0.heap.size (fun _ => True) v1 l2) (hb : Below w0.heap.size w0 w1) (hg : w.grownBy w1 vm.ownBlock)
 (hat : v1.ownBlock = vm.ownBlock ∨ ∃ b, v1.ownBlock = some b ∧ w.heap.size ≤ b) : spec_SegOk.Zs w0 wi (w1.setCell ⟨g, 1, none⟩ v1) g g4 vn v1 nm l2 bad cs4 := by
 have b1 := blk_grown h.blk hg (Kd.R_ne h.hM h.blk (by decide)); have b4 := blk_grown h.blk4 hg (Kd.R_ne h.hM h.blk4 (by decide)); have n1 := Kd.R_mono (Kd.R_after (ok := fun _ => True) (Kd.R_mono h.hN (fun k hk => ⟨trivial, hk⟩)) hg hat) (ok' := fun k_ => some k_ ≠ v1.ownBlock) (fun k hk => hk.2)
 exact ⟨blk_put b1 1 _ rfl, blk_far b4 (spec_SegOk.ne27 b4 b1 (by decide)) _, Kd.R_set n1 b1 (by decide) _ _, Kd.R_set ho b1 (by decide) _ _, h.ge, h.ge4, below_set hb h.ge,
  fun j cs hj => blk_far (blk_grown (h.fr j cs hj) hg (Kd.R_ne h.hM (h.fr j cs hj) (by decide))) (spec_SegOk.ne27 (blk_grown (h.fr j cs hj) hg (Kd.R_ne h.hM (h.fr j cs hj) (by decide))) b1 (by decide)) _⟩
end
structure spec_SegOk.Ss (w0 w : World) (g : Nat) (vn vm : Value) (nm md : List ByteArray) (bad : Bool) : Prop where
 blk : w.heap[g]? = some (.cells #[vn, vm, .bool bad] 72 (0, 0))
 hN : Kd.R Kd.string 9 w w0.heap.size (fun k_ => some k_ ≠ vm.ownBlock) vn nm
 hM : Kd.R Kd.string 9 w w0.heap.size (fun _ => True) vm md
 ge : w0.heap.size ≤ g
 hB : Below w0.heap.size w0 w
def spec_SegOk.Done (w0 w : World) (g : Nat) (nm md : List ByteArray) (bad : Bool) (e : Ending) (w' : World) : Prop :=
 e = .returned (.tuple #[]) ∧ ∃ vn vm, spec_SegOk.Ss w0 w' g vn vm nm md bad ∧ ∀ (j : Nat) cs, w.heap[j]? = some (.cells cs 27 (0, 0)) → w'.heap[j]? = some (.cells cs 27 (0, 0))
section
variable {w0 wi w w1 : World} {g g4 : Nat} {vn vm v1 : Value} {nm md nm1 md1 : List ByteArray} {bad b1 : Bool} {cs4 : Array Value}
theorem spec_SegOk.Ss.box (h : spec_SegOk.Ss w0 w g vn vm nm md bad) (hg : g4 = w.heap.size) (hbox : w1.heap[g4]? = some (.cells cs4 27 (0, 0))) (hb : Below w.heap.size w w1) : spec_SegOk.Zs w0 w w1 g g4 vn vm nm md bad cs4 :=
 ⟨blk_below h.blk hb, hbox, Kd.R_below h.hN hb, Kd.R_below h.hM hb, h.ge, by rw [hg]; exact h.hB.size, below_step h.hB hb, fun j cs hj => blk_below hj hb⟩
theorem spec_SegOk.Zs.ss (h : spec_SegOk.Zs w0 wi w g g4 vn vm nm md bad cs4) : spec_SegOk.Ss w0 w g vn vm nm md bad := ⟨h.blk, h.hN, h.hM, h.ge, h.hB⟩
theorem spec_SegOk.Zs.done (h : spec_SegOk.Zs w0 wi w g g4 vn vm nm md bad cs4) : spec_SegOk.Done w0 wi g nm md bad (.returned (.tuple #[])) w := ⟨rfl, vn, vm, h.ss, h.fr⟩
theorem spec_SegOk.Zs.call (h : spec_SegOk.Zs w0 wi w g g4 vn vm nm md bad cs4) {vn1 vm1 : Value} (hs : spec_SegOk.Ss w0 w1 g vn1 vm1 nm1 md1 b1) (hf : ∀ (j : Nat) cs, w.heap[j]? = some (.cells cs 27 (0, 0)) → w1.heap[j]? = some (.cells cs 27 (0, 0))) : spec_SegOk.Zs w0 wi w1 g g4 vn1 vm1 nm1 md1 b1 cs4 :=
 ⟨hs.blk, hf _ _ h.blk4, hs.hN, hs.hM, hs.ge, h.ge4, hs.hB, fun j cs hj => hf _ _ (h.fr j cs hj)⟩
theorem spec_SegOk.db {w w' : World} (h : Drawn0 w w') : Below w.heap.size w w' := by
 obtain ⟨nd, rfl⟩ := h; exact pw_below_drewN (Below.refl _ _) nd
theorem spec_SegOk.Zs.nil_ (h : spec_SegOk.Zs w0 wi w g g4 vn vm nm md bad cs4) : Kd.R Kd.string 9 w w0.heap.size (fun k_ => some k_ ≠ vm.ownBlock) vn nm := h.hN
end
def spec_SegOk.T1 : Bool × List (List Nat × List Nat) := (true, [([], []), ([0], [0]), ([1], [1]), ([2], [2]), ([3], [3]), ([4], [4]), ([5, 4], [4, 5]), ([4, 6], [4, 6]), ([7, 4], [7]), ([8], [8]), ([9, 8], [8, 9]), ([10, 8, 8], [8, 10]), ([11, 8], [8, 11]), ([8, 12], [8, 12]), ([13, 11], [13]), ([14], [14]), ([15, 14], [14, 15]), ([16, 14], [14, 16]), ([17, 14], [14, 17]), ([14], [14]), ([19, 14], [14, 19]), ([18, 20, 14, 14], [14, 18, 20]), ([21, 14], [14, 21]), ([14, 22], [14, 22]), ([23, 21], [23]), ([24], [24]), ([25, 24], [24, 25]), ([26, 24], [24, 26]), ([27, 24], [24, 27]), ([24, 28], [24, 28])])
def spec_SegOk.B1 : List Nat := [0, 1, 3, 7, 15, 31, 63, 127, 255, 511, 1023, 2047, 4095, 8191, 16383, 32767, 65535, 131071, 262143, 32767, 557055, 2097151, 4194303, 8388607, 16777215, 33554431, 67108863, 134217727, 268435455, 536870911]
theorem spec_SegOk.tab1 : rtab .any (opsOf Try.f53 1) = spec_SegOk.T1 := by kernel_rfl
theorem spec_SegOk.bits1 : waitsOk spec_SegOk.T1.2 spec_SegOk.B1 = true := by kernel_rfl
def spec_SegOk.T3 : Bool × List (List Nat × List Nat) := (true, [([], []), ([], []), ([1], [1]), ([2], [2]), ([3], [3]), ([], []), ([5], [5]), ([6], [6]), ([4, 7], [4, 7]), ([0, 0, 1, 2, 3, 4, 5, 6, 7, 8], [0]), ([9, 0, 1, 2, 3, 4, 5, 6, 7, 8], [9]), ([10, 8, 8, 0, 1, 2, 3, 4, 5, 6, 7, 8], [8, 10])])
def spec_SegOk.B3 : List Nat := [0, 0, 2, 6, 14, 0, 32, 96, 254, 511, 1023, 2047]
theorem spec_SegOk.tab3 : rtab .any (opsOf Try.f53 3) = spec_SegOk.T3 := by kernel_rfl
theorem spec_SegOk.bits3 : waitsOk spec_SegOk.T3.2 spec_SegOk.B3 = true := by kernel_rfl
def spec_SegOk.T7 : Bool × List (List Nat × List Nat) := (true, [([], []), ([0], [0]), ([], []), ([1, 2], [1, 2]), ([3], [3]), ([4], [4]), ([5], [5]), ([6, 5], [6]), ([7], [7]), ([8, 7], [7, 8]), ([9, 7], [7, 9]), ([10, 7], [7, 10]), ([7], [7]), ([12, 7], [7, 12]), ([7], [7]), ([13, 14, 7], [7, 13, 14]), ([15, 7], [7, 15]), ([11, 16, 7, 7], [7, 11, 16]), ([17, 7], [7, 17]), ([7, 18], [7, 18])])
def spec_SegOk.B7 : List Nat := [0, 1, 0, 7, 15, 31, 63, 127, 255, 511, 1023, 2047, 255, 4351, 255, 28927, 61695, 131071, 262143, 524287]
theorem spec_SegOk.tab7 : rtab .any (opsOf Try.f53 7) = spec_SegOk.T7 := by kernel_rfl
theorem spec_SegOk.bits7 : waitsOk spec_SegOk.T7.2 spec_SegOk.B7 = true := by kernel_rfl
def spec_SegOk.T9 : Bool × List (List Nat × List Nat) := (true, [([], []), ([], []), ([1], [1]), ([2], [2]), ([3], [3]), ([], []), ([5], [5]), ([], []), ([6, 7], [6, 7]), ([8], [8]), ([9], [9]), ([4, 10], [4, 10]), ([0, 0, 1, 2, 3, 4, 5, 6, 7, 8, 9, 10, 11], [0]), ([12, 0, 1, 2, 3, 4, 5, 6, 7, 8, 9, 10, 11], [12]), ([13, 11, 11, 0, 1, 2, 3, 4, 5, 6, 7, 8, 9, 10, 11], [11, 13])])
def spec_SegOk.B9 : List Nat := [0, 0, 2, 6, 14, 0, 32, 0, 224, 480, 992, 2046, 4095, 8191, 16383]
theorem spec_SegOk.tab9 : rtab .any (opsOf Try.f53 9) = spec_SegOk.T9 := by kernel_rfl
theorem spec_SegOk.bits9 : waitsOk spec_SegOk.T9.2 spec_SegOk.B9 = true := by kernel_rfl
set_option maxHeartbeats 8000000 in
set_option maxRecDepth 100000 in
theorem spec_SegOk.wcalls (k : Nat) : ∀ (nm md : List ByteArray) (bad : Bool) (n : ByteArray) (A1 : Option Addr) (c1 : Nat) (m : List ByteArray) (A2 : Option Addr) (c2 : Nat) (ks : List S27) (dp : Int) (nm' md' : List ByteArray) (bad' : Bool) (w0 w : World) (g : Nat) (vn vm : Value) (hr1 : Kd.C Kd.string w0 A1 m.length m) (hc1 : m.length ≤ c1) (hr2 : Kd.C k27 w0 A2 ks.length ks) (hc2 : ks.length ≤ c2) (hS : spec_SegOk.Ss w0 w g vn vm nm md bad) (h : spec_SegOk.wk k nm md bad n m ks dp = some (nm', md', bad')),
 Calls Try.prog 53 #[.pointer (some ⟨g, 0, none⟩), .agg #[.string n, .slice A1 m.length c1, .slice A2 ks.length c2], .int .i64 dp] w (spec_SegOk.Done w0 w g nm' md' bad') := by
 induction k using Nat.strongRecOn with
 | _ k ih =>
 intro nm md bad n A1 c1 m A2 c2 ks dp nm' md' bad' w0 w g vn vm hr1 hc1 hr2 hc2 hS h
 cases k with
 | zero => exact absurd h (by simp [spec_SegOk.wk])
 | succ k =>
 obtain ⟨An, cn, rfl⟩ := Kd.R_slice hS.hN; obtain ⟨Am, cm, rfl⟩ := Kd.R_slice hS.hM; simp only [spec_SegOk.wk] at h; have hu27 := Try.underlying27; have hu72 := Try.underlying72; have el := ak hr1; have ex := ak hc1; have ff := ak hr2; have gb := ak hc2; have HS := ak hS; have H := ak h; clear hr1 hc1 hr2 hc2 hS h
 go_enter Try.func53, Try.ntmps53
 go_upto_region 1 with (first | ((with_reducible refine gate_dst (N := 4) rfl ?_); refine box_event ?hg (N := 4) ?hd (cs := #[.string n, .slice A1 m.length c1, .slice A2 ks.length c2]) (t := 27) ?hr ?_; (case hd => rfl); (case hg => rfl); (case hr => first | (go_simp; done) | (go_simp; rfl)); intro g4 hg w2 hbox hb; have HZ := ak (HS.out.box hg hbox hb); clear hg hbox hb HS))
 (try simp only [Act.put, List.setIfInBounds_toArray, List.set_cons_zero, List.set_cons_succ])
 cases bad with
 | true =>
  have H1 := H.out; clear H; rw [if_pos rfl] at H1; simp only [Option.some.injEq, Prod.mk.injEq] at H1; obtain ⟨rfl, rfl, rfl⟩ := H1; replace HZ := ak (HZ.out.below (below_drew (Below.refl _ w2))); refine st_ 30 (fun w' => w'.cell? ⟨g, 0, none⟩ = some (.slice An nm.length cn) ∧ w'.cell? ⟨g, 1, none⟩ = some (.slice Am md.length cm) ∧ w'.cell? ⟨g, 2, none⟩ = some (.bool true) ∧ w'.cell? ⟨g4, 0, none⟩ = some (.string n) ∧ w'.cell? ⟨g4, 1, none⟩ = some (.slice A1 m.length c1) ∧ w'.cell? ⟨g4, 2, none⟩ = some (.slice A2 ks.length c2)) [] ⟨bc HZ.out.blk 0, bc HZ.out.blk 1, bc HZ.out.blk 2, bc HZ.out.blk4 0, bc HZ.out.blk4 1, bc HZ.out.blk4 2⟩ (fun hHeld => ?_); refine with_tabW spec_SegOk.tab1 spec_SegOk.bits1 (fun HT_ HW_ => ?_); generalize w2.drew = w3 at HZ hHeld ⊢; refine go_ ?_ [0, 1, 2, 1003, 4, 2005, 2006, 7, 8, 2009, 2010, 2011, 2012, 13, 14, 2015, 2016, 2017, 2018, 2019, 2020, 2021, 2022, 23, 24, 2025, 2026, 2027, 2028, 29] ?_
  refine done_ (done_of HT_.out (by kernel_rfl)) ?_; have hz0 := bc HZ.out.blk 2; have hz1 := blk_frozen HZ.out.blk 2; go_wp2
  go_end0
  exact HZ.out.bad_.done
 | false =>
  have H1 := H.out; clear H; rw [if_neg (show ¬ (false = true) by decide)] at H1
  by_cases c5 : dp > 4
  ·rw [if_pos c5] at H1; have kz : decide (4 < dp) = true := decide_eq_true c5; clear c5; simp only [Option.some.injEq, Prod.mk.injEq] at H1; obtain ⟨rfl, rfl, rfl⟩ := H1; replace HZ := ak (HZ.out.below (below_drew (Below.refl _ w2))); refine st_ 30 (fun w' => w'.cell? ⟨g, 0, none⟩ = some (.slice An nm.length cn) ∧ w'.cell? ⟨g, 1, none⟩ = some (.slice Am md.length cm) ∧ w'.cell? ⟨g, 2, none⟩ = some (.bool false) ∧ w'.cell? ⟨g4, 0, none⟩ = some (.string n) ∧ w'.cell? ⟨g4, 1, none⟩ = some (.slice A1 m.length c1) ∧ w'.cell? ⟨g4, 2, none⟩ = some (.slice A2 ks.length c2)) [] ⟨bc HZ.out.blk 0, bc HZ.out.blk 1, bc HZ.out.blk 2, bc HZ.out.blk4 0, bc HZ.out.blk4 1, bc HZ.out.blk4 2⟩ (fun hHeld => ?_); refine with_tabW spec_SegOk.tab1 spec_SegOk.bits1 (fun HT_ HW_ => ?_); generalize w2.drew = w3 at HZ hHeld ⊢; refine go_ ?_ [0, 1, 2, 1003, 4, 5, 6, 7, 8, 2009, 2010, 2011, 2012, 13, 14, 2015, 2016, 2017, 2018, 2019, 2020, 2021, 2022, 23, 24, 2025, 2026, 2027, 2028, 29] ?_
   refine done_ (done_of HT_.out (by kernel_rfl)) ?_; have hz0 := bc HZ.out.blk 2; have hz1 := blk_frozen HZ.out.blk 2; go_wp2
   go_end0
   exact HZ.out.bad_.done
  ·rw [if_neg c5] at H1; have kz : decide (4 < dp) = false := decide_eq_false c5; clear c5; obtain ⟨q, AQ, H1⟩ := Option.bind_eq_some_iff.mp H1; replace AQ := ak AQ
   cases q with
   | false =>
    rw [if_neg (show ¬ (false = true) by decide)] at H1; simp only [Option.some.injEq, Prod.mk.injEq] at H1; obtain ⟨rfl, rfl, rfl⟩ := H1; replace HZ := ak (HZ.out.below (below_drew (Below.refl _ w2))); refine st_ 30 (fun w' => w'.cell? ⟨g, 0, none⟩ = some (.slice An nm.length cn) ∧ w'.cell? ⟨g, 1, none⟩ = some (.slice Am md.length cm) ∧ w'.cell? ⟨g, 2, none⟩ = some (.bool false) ∧ w'.cell? ⟨g4, 0, none⟩ = some (.string n) ∧ w'.cell? ⟨g4, 1, none⟩ = some (.slice A1 m.length c1) ∧ w'.cell? ⟨g4, 2, none⟩ = some (.slice A2 ks.length c2)) [] ⟨bc HZ.out.blk 0, bc HZ.out.blk 1, bc HZ.out.blk 2, bc HZ.out.blk4 0, bc HZ.out.blk4 1, bc HZ.out.blk4 2⟩ (fun hHeld => ?_); refine with_tabW spec_SegOk.tab1 spec_SegOk.bits1 (fun HT_ HW_ => ?_); generalize w2.drew = w3 at HZ hHeld ⊢; refine go_ ?_ [0, 1, 2, 1003, 4, 5, 6, 7, 8, 9, 1010] ?_; refine on_ 11 19 (fun K hK => ?_); refine gs_ Try.func60 #[.string n] ?_
    refine (spec_l9Name.calls k n false _ AQ.out).mono ?_; rintro e w_ ⟨rfl, hb⟩; refine ⟨_, rfl, ?_⟩; replace HZ := ak (HZ.out.below hb); refine hK.out _ _ ⟨bc HZ.out.blk 0, bc HZ.out.blk 1, bc HZ.out.blk 2, bc HZ.out.blk4 0, bc HZ.out.blk4 1, bc HZ.out.blk4 2⟩ (fun hHeld => ?_); clear hK K; refine nm_ ?_; clear hb; refine go_ ?_ [12, 13, 14, 2015, 2016, 2017, 2018, 2019, 2020, 2021, 2022, 23, 24, 2025, 2026, 2027, 2028, 29] ?_; refine done_ (done_of HT_.out (by kernel_rfl)) ?_; have hz0 := bc HZ.out.blk 2; have hz1 := blk_frozen HZ.out.blk 2; go_wp2
    go_end0
    exact HZ.out.bad_.done
   | true =>
    rw [if_pos rfl] at H1; obtain ⟨i, AI, H1⟩ := Option.bind_eq_some_iff.mp H1; replace AI := ak AI
    by_cases c6 : i ≥ 0
    ·rw [if_pos c6] at H1; have nw : decide (0 ≤ i) = true := decide_eq_true c6; clear c6; simp only [Option.some.injEq, Prod.mk.injEq] at H1; obtain ⟨rfl, rfl, rfl⟩ := H1; replace HZ := ak (HZ.out.below (below_drew (Below.refl _ w2))); refine st_ 30 (fun w' => w'.cell? ⟨g, 0, none⟩ = some (.slice An nm.length cn) ∧ w'.cell? ⟨g, 1, none⟩ = some (.slice Am md.length cm) ∧ w'.cell? ⟨g, 2, none⟩ = some (.bool false) ∧ w'.cell? ⟨g4, 0, none⟩ = some (.string n) ∧ w'.cell? ⟨g4, 1, none⟩ = some (.slice A1 m.length c1) ∧ w'.cell? ⟨g4, 2, none⟩ = some (.slice A2 ks.length c2)) [] ⟨bc HZ.out.blk 0, bc HZ.out.blk 1, bc HZ.out.blk 2, bc HZ.out.blk4 0, bc HZ.out.blk4 1, bc HZ.out.blk4 2⟩ (fun hHeld => ?_); refine with_tabW spec_SegOk.tab1 spec_SegOk.bits1 (fun HT_ HW_ => ?_); generalize w2.drew = w3 at HZ hHeld ⊢; refine go_ ?_ [0, 1, 2, 1003, 4, 5, 6, 7, 8, 9, 1010] ?_; refine on_ 11 19 (fun K hK => ?_)
     refine gs_ Try.func60 #[.string n] ?_; refine (spec_l9Name.calls k n true _ AQ.out).mono ?_; rintro e w_ ⟨rfl, hb⟩; refine ⟨_, rfl, ?_⟩; replace HZ := ak (HZ.out.below hb); refine hK.out _ _ ⟨bc HZ.out.blk 0, bc HZ.out.blk 1, bc HZ.out.blk 2, bc HZ.out.blk4 0, bc HZ.out.blk4 1, bc HZ.out.blk4 2⟩ (fun hHeld => ?_); clear hK K; refine nm_ ?_; clear hb; refine go_ ?_ [12, 13, 14, 15, 16, 17, 1018, 19, 1020] ?_; refine on_ 21 29 (fun K hK => ?_); refine gs_ Try.func46 #[.slice An nm.length cn, .string n] ?_; refine (spec_l9At.calls k _ _ nm n i _ (Kd.R_reads' HZ.out.hN).2.2 (Kd.R_reads' HZ.out.hN).2.1 AI.out).mono ?_; rintro e w4 ⟨rfl, hd⟩; have hb := spec_SegOk.db hd; clear hd; refine ⟨_, rfl, ?_⟩; replace HZ := ak (HZ.out.below hb); refine hK.out _ _ ⟨bc HZ.out.blk 0, bc HZ.out.blk 1, bc HZ.out.blk 2, bc HZ.out.blk4 0, bc HZ.out.blk4 1, bc HZ.out.blk4 2⟩ (fun hHeld => ?_); clear hK K
     refine nm_ ?_; clear hb; refine go_ ?_ [22, 23, 24, 2025, 2026, 2027, 2028, 29] ?_; refine done_ (done_of HT_.out (by kernel_rfl)) ?_; have hz0 := bc HZ.out.blk 2; have hz1 := blk_frozen HZ.out.blk 2; go_wp2
     go_end0
     exact HZ.out.bad_.done
    ·rw [if_neg c6] at H1; have nw : decide (0 ≤ i) = false := decide_eq_false c6; clear c6
     by_cases c7 : (m.length : Int) > 6
     ·rw [if_pos c7] at H1; have pk : decide (6 < (m.length : Int)) = true := decide_eq_true c7; have a6q : decide (6 < m.length) = true := decide_eq_true (by omega); clear c7; simp only [Option.some.injEq, Prod.mk.injEq] at H1; obtain ⟨rfl, rfl, rfl⟩ := H1; replace HZ := ak (HZ.out.below (below_drew (Below.refl _ w2))); refine st_ 30 (fun w' => w'.cell? ⟨g, 0, none⟩ = some (.slice An nm.length cn) ∧ w'.cell? ⟨g, 1, none⟩ = some (.slice Am md.length cm) ∧ w'.cell? ⟨g, 2, none⟩ = some (.bool false) ∧ w'.cell? ⟨g4, 0, none⟩ = some (.string n) ∧ w'.cell? ⟨g4, 1, none⟩ = some (.slice A1 m.length c1) ∧ w'.cell? ⟨g4, 2, none⟩ = some (.slice A2 ks.length c2)) [] ⟨bc HZ.out.blk 0, bc HZ.out.blk 1, bc HZ.out.blk 2, bc HZ.out.blk4 0, bc HZ.out.blk4 1, bc HZ.out.blk4 2⟩ (fun hHeld => ?_); refine with_tabW spec_SegOk.tab1 spec_SegOk.bits1 (fun HT_ HW_ => ?_); generalize w2.drew = w3 at HZ hHeld ⊢
      refine go_ ?_ [0, 1, 2, 1003, 4, 5, 6, 7, 8, 9, 1010] ?_; refine on_ 11 19 (fun K hK => ?_); refine gs_ Try.func60 #[.string n] ?_; refine (spec_l9Name.calls k n true _ AQ.out).mono ?_; rintro e w_ ⟨rfl, hb⟩; refine ⟨_, rfl, ?_⟩; replace HZ := ak (HZ.out.below hb); refine hK.out _ _ ⟨bc HZ.out.blk 0, bc HZ.out.blk 1, bc HZ.out.blk 2, bc HZ.out.blk4 0, bc HZ.out.blk4 1, bc HZ.out.blk4 2⟩ (fun hHeld => ?_); clear hK K; refine nm_ ?_; clear hb; refine go_ ?_ [12, 13, 14, 15, 16, 17, 1018, 19, 1020] ?_; refine on_ 21 29 (fun K hK => ?_); refine gs_ Try.func46 #[.slice An nm.length cn, .string n] ?_; refine (spec_l9At.calls k _ _ nm n i _ (Kd.R_reads' HZ.out.hN).2.2 (Kd.R_reads' HZ.out.hN).2.1 AI.out).mono ?_; rintro e w4 ⟨rfl, hd⟩; have hb := spec_SegOk.db hd; clear hd; refine ⟨_, rfl, ?_⟩; replace HZ := ak (HZ.out.below hb); refine hK.out _ _ ⟨bc HZ.out.blk 0, bc HZ.out.blk 1, bc HZ.out.blk 2, bc HZ.out.blk4 0, bc HZ.out.blk4 1, bc HZ.out.blk4 2⟩ (fun hHeld => ?_)
      clear hK K; refine nm_ ?_; clear hb; refine go_ ?_ [22, 23, 24, 25, 1026, 27, 28, 29] ?_; refine done_ (done_of HT_.out (by kernel_rfl)) ?_; have hz0 := bc HZ.out.blk 2; have hz1 := blk_frozen HZ.out.blk 2; go_wp2
      go_end0
      exact HZ.out.bad_.done
     ·rw [if_neg c7] at H1; have pk : decide (6 < (m.length : Int)) = false := decide_eq_false c7; have a6q : decide (6 < m.length) = false := decide_eq_false (by omega); clear c7
      by_cases c8 : nm.length < 8796093022208
      ·rw [if_pos c8] at H1; have HL := ak c8; clear c8; obtain ⟨ny, hy⟩ : ∃ ny, ny = nm ++ [n] := ⟨_, rfl⟩; rw [← hy] at H1; have HY := ak hy; clear hy; replace HZ := ak (HZ.out.below (below_drew (Below.refl _ w2))); refine st_ 30 (fun w' => w'.cell? ⟨g, 0, none⟩ = some (.slice An nm.length cn) ∧ w'.cell? ⟨g, 1, none⟩ = some (.slice Am md.length cm) ∧ w'.cell? ⟨g, 2, none⟩ = some (.bool false) ∧ w'.cell? ⟨g4, 0, none⟩ = some (.string n) ∧ w'.cell? ⟨g4, 1, none⟩ = some (.slice A1 m.length c1) ∧ w'.cell? ⟨g4, 2, none⟩ = some (.slice A2 ks.length c2)) [] ⟨bc HZ.out.blk 0, bc HZ.out.blk 1, bc HZ.out.blk 2, bc HZ.out.blk4 0, bc HZ.out.blk4 1, bc HZ.out.blk4 2⟩ (fun hHeld => ?_); refine with_tabW spec_SegOk.tab1 spec_SegOk.bits1 (fun HT_ HW_ => ?_); generalize w2.drew = w3 at HZ hHeld ⊢; refine go_ ?_ [0, 1, 2, 1003, 4, 5, 6, 7, 8, 9, 1010] ?_; refine on_ 11 19 (fun K hK => ?_); refine gs_ Try.func60 #[.string n] ?_
       refine (spec_l9Name.calls k n true _ AQ.out).mono ?_; rintro e w_ ⟨rfl, hb⟩; refine ⟨_, rfl, ?_⟩; replace HZ := ak (HZ.out.below hb); refine hK.out _ _ ⟨bc HZ.out.blk 0, bc HZ.out.blk 1, bc HZ.out.blk 2, bc HZ.out.blk4 0, bc HZ.out.blk4 1, bc HZ.out.blk4 2⟩ (fun hHeld => ?_); clear hK K; refine nm_ ?_; clear hb; refine go_ ?_ [12, 13, 14, 15, 16, 17, 1018, 19, 1020] ?_; refine on_ 21 29 (fun K hK => ?_); refine gs_ Try.func46 #[.slice An nm.length cn, .string n] ?_; refine (spec_l9At.calls k _ _ nm n i _ (Kd.R_reads' HZ.out.hN).2.2 (Kd.R_reads' HZ.out.hN).2.1 AI.out).mono ?_; rintro e w4 ⟨rfl, hd⟩; have hb := spec_SegOk.db hd; clear hd; refine ⟨_, rfl, ?_⟩; replace HZ := ak (HZ.out.below hb); refine hK.out _ _ ⟨bc HZ.out.blk 0, bc HZ.out.blk 1, bc HZ.out.blk 2, bc HZ.out.blk4 0, bc HZ.out.blk4 1, bc HZ.out.blk4 2⟩ (fun hHeld => ?_); clear hK K; refine nm_ ?_; clear hb; refine go_ ?_ [22, 23, 24, 25, 1026, 27, 28, 29] ?_
       refine done_ (done_of HT_.out (by kernel_rfl)) ?_; clear HT_ HW_ hHeld
       go_upto_region 3 with (fail)
       (try simp only [Act.put, List.setIfInBounds_toArray, List.set_cons_zero, List.set_cons_succ]); replace HZ := ak (HZ.out.below (below_drew (Below.refl _ w4))); refine st_ 12 (fun w' => w'.cell? ⟨g, 0, none⟩ = some (.slice An nm.length cn) ∧ w'.cell? ⟨g, 1, none⟩ = some (.slice Am md.length cm) ∧ w'.cell? ⟨g, 2, none⟩ = some (.bool false) ∧ w'.cell? ⟨g4, 0, none⟩ = some (.string n) ∧ w'.cell? ⟨g4, 1, none⟩ = some (.slice A1 m.length c1) ∧ w'.cell? ⟨g4, 2, none⟩ = some (.slice A2 ks.length c2)) [11] ⟨bc HZ.out.blk 0, bc HZ.out.blk 1, bc HZ.out.blk 2, bc HZ.out.blk4 0, bc HZ.out.blk4 1, bc HZ.out.blk4 2⟩ (fun hHeld => ?_); refine with_tabW spec_SegOk.tab3 spec_SegOk.bits3 (fun HT_ HW_ => ?_); generalize w4.drew = w5 at HZ hHeld ⊢; refine go_ ?_ [0, 1, 2, 3, 1004, 5, 1006] ?_; refine on_ 7 48 (fun K hK => ?_); refine value_ (w1 := ?_) (v := ?_) (by rfl) rfl ?_ ?_
       rotate_left 2
       ·go_simp
        constructor
        ·rfl
        ·rfl
       refine hK.out _ _ ⟨bc (blk_alloc HZ.out.blk _) 0, bc (blk_alloc HZ.out.blk _) 1, bc (blk_alloc HZ.out.blk _) 2, bc (blk_alloc HZ.out.blk4 _) 0, bc (blk_alloc HZ.out.blk4 _) 1, bc (blk_alloc HZ.out.blk4 _) 2⟩ (fun hHeld => ?_); clear hK K; refine nm_ ?_; refine on_ 8 49 (fun K hK => ?_); refine Kd.R_append_step Kd.string w0.heap.size (by rfl) (.tmp 45) (.tmp 48) 24 9 (.string ⟨#[]⟩) 16 rfl Try.underlying24 info9 rfl (by decide) (by omega) (.slice An nm.length cn) nm n [.string n] (fun k_ => some k_ ≠ (.slice Am md.length cm : Value).ownBlock) (fun _ => False) rfl rfl ?aP (fun _ hk => hk.elim) ?aF ?aO HZ.out.hB ?aS ?aL ?_; (case aP => exact rfl); (case aF => exact (fun k_ hk => Kd.fresh' (Kd.R_lt HZ.out.hM) k_ hk)); (case aO => exact HZ.out.hN); (case aS => exact HZ.out.hB.size); (case aL => have := HL.out; omega); intro v1 w6 ho hb hg hat; rw [← HY.out] at ho; obtain ⟨Av, cv, rfl⟩ := Kd.R_slice ho
       have b1 := blk_grown HZ.out.blk hg (Kd.R_ne HZ.out.hN HZ.out.blk (by decide)); have b4 := blk_grown HZ.out.blk4 hg (Kd.R_ne HZ.out.hN HZ.out.blk4 (by decide)); refine hK.out _ _ ⟨bc b1 0, bc b1 1, bc b1 2, bc b4 0, bc b4 1, bc b4 2⟩ (fun hHeld => ?_); clear hK K; refine nm_ ?_; refine go_ ?_ [9, 10] ?_; refine last_ (i := 11) (N := none) (bz 12 4095) rfl rfl (one_of HT_.out (by kernel_rfl)) (by decide) (fun K hK => ?_); have hs := bc b1 0; have hfs := blk_frozen b1 0; refine skip_ (w1 := ?_) (by rfl) rfl ?_ ?_
       rotate_left
       ·go_simp
        rfl
       refine hK.out _ _ ?_; clear hK K hs hfs hHeld; refine done_ (done_of HT_.out (by kernel_rfl)) ?_; clear HT_ HW_; replace HZ := ak (HZ.out.name_ ho hb hg); clear ho hb hg hat b1 b4; generalize w6.setCell _ _ = w7 at HZ ⊢; have H' := ak H1; clear H1; go_wp2
       go_loopg [6] k (fun kq v6 w' => ∃ (x6 : Int) (mds : List ByteArray) (bd : Bool) (vn1 vm1 : Value), v6 = .int .i64 x6 ∧ Aside0 (spec_SegOk.wm kq ny mds bd m ks dp x6 = some (nm', md', bad')) ∧ Aside0 (kq ≤ k) ∧ Aside0 (spec_SegOk.Zs w0 w w' g g4 vn1 vm1 ny mds bd #[.string n, .slice A1 m.length c1, .slice A2 ks.length c2]))
       case atStart => exact ⟨0, md, false, _, _, z_6, H', ⟨Nat.le_refl _⟩, HZ⟩
       case round =>
        clear H' HZ HL AQ AI HY; obtain ⟨x6, mds, bd, vn1, vm1, rfl, HA, HK1, HZ⟩ := hrel
        cases gk with
        | zero => exact absurd HA.out (by simp [spec_SegOk.wm])
        | succ k1 =>
         have H := HA.out; clear HA; simp only [spec_SegOk.wm] at H; obtain ⟨An1, cn1, rfl⟩ := Kd.R_slice HZ.out.hN; obtain ⟨Am1, cm1, rfl⟩ := Kd.R_slice HZ.out.hM; have hz4 := bc HZ.out.blk4 1
         by_cases c9 : x6 < (m.length : Int)
         ·rw [if_pos c9] at H; have si := decide_eq_true c9; clear c9
          by_cases ew : 0 ≤ x6
          ·rw [if_pos ew] at H; have agt := decide_eq_true ew; clear ew; obtain ⟨q, AQ, H⟩ := Option.bind_eq_some_iff.mp H; replace AQ := ak AQ; have p5 : 0 ≤ (x6 : Int) := of_decide_eq_true z_9; have q5 : x6 < (m.length : Int) := of_decide_eq_true z_9; obtain ⟨ad, e5, fb⟩ := Kd.at_string el.out x6 p5 q5; cases e5; replace fb := ak fb; replace p5 := eq_true p5; replace q5 := eq_true q5
           by_cases dw : mds.length < 8796093022208
           ·rw [if_pos dw] at H; have HL := ak dw; clear dw; obtain ⟨mz, hy⟩ : ∃ mz, mz = mds ++ [(rdOf ByteArray.empty m x6)] := ⟨_, rfl⟩; rw [← hy] at H; have HYM := ak hy; clear hy
            go_upto_region 7 with (fail)
            (try simp only [Act.put, List.setIfInBounds_toArray, List.set_cons_zero, List.set_cons_succ]); clear hz4
            cases q with
            | false =>
             rw [if_neg (show ¬ (false = true) by decide)] at H; have H' := ak H; clear H; replace HZ := ak (HZ.out.below (below_drew (Below.refl _ wr))); have ju := (HZ.out.hB.cell (World.block_lt_of_cell? w0 _ fb.out)).trans fb.out; refine st_ 20 (fun w' => w'.cell? ⟨g, 0, none⟩ = some (.slice An1 ny.length cn1) ∧ w'.cell? ⟨g, 1, none⟩ = some (.slice Am1 mds.length cm1) ∧ w'.cell? ⟨g, 2, none⟩ = some (.bool bd) ∧ w'.cell? ⟨g4, 0, none⟩ = some (.string n) ∧ w'.cell? ⟨g4, 1, none⟩ = some (.slice (some ad) m.length c1) ∧ w'.cell? ⟨g4, 2, none⟩ = some (.slice A2 ks.length c2) ∧ w'.cell? (ad.add x6.toNat) = some (.string (rdOf ByteArray.empty m x6))) [] ⟨bc HZ.out.blk 0, bc HZ.out.blk 1, bc HZ.out.blk 2, bc HZ.out.blk4 0, bc HZ.out.blk4 1, bc HZ.out.blk4 2, ju⟩ (fun hHeld => ?_); refine with_tabW spec_SegOk.tab7 spec_SegOk.bits7 (fun HT_ HW_ => ?_); clear ju; generalize wr.drew = w8 at HZ hHeld ⊢
             refine go_ ?_ [0, 1001, 2, 3, 1004] ?_; refine on_ 5 64 (fun K hK => ?_); refine gs_ Try.func60 #[.string (rdOf ByteArray.empty m x6)] ?_; refine (spec_l9Name.calls k1 (rdOf ByteArray.empty m x6) false _ AQ.out).mono ?_; rintro e w_ ⟨rfl, hb⟩; refine ⟨_, rfl, ?_⟩; replace HZ := ak (HZ.out.below hb); refine hK.out _ _ ⟨bc HZ.out.blk 0, bc HZ.out.blk 1, bc HZ.out.blk 2, bc HZ.out.blk4 0, bc HZ.out.blk4 1, bc HZ.out.blk4 2, (HZ.out.hB.cell (World.block_lt_of_cell? w0 _ fb.out)).trans fb.out⟩ (fun hHeld => ?_); clear hK K; refine nm_ ?_; clear hb; refine go_ ?_ [6, 7, 2008, 2009, 2010, 2011, 2012, 2013, 2014, 2015, 2016, 2017, 2018, 19] ?_; refine done_ (done_of HT_.out (by kernel_rfl)) ?_; clear HT_ HW_ hHeld; have hz0 := bc HZ.out.blk 2; have hz1 := blk_frozen HZ.out.blk 2
             go_upto_region 9 with (fail)
             (try simp only [Act.put, List.setIfInBounds_toArray, List.set_cons_zero, List.set_cons_succ]); clear hz0 hz1; replace HZ := ak HZ.out.bad_; generalize World.setCell _ _ _ = qf at HZ ⊢; replace HZ := ak (HZ.out.below (below_drew (Below.refl _ qf))); have ju := (HZ.out.hB.cell (World.block_lt_of_cell? w0 _ fb.out)).trans fb.out; refine st_ 15 (fun w' => w'.cell? ⟨g, 0, none⟩ = some (.slice An1 ny.length cn1) ∧ w'.cell? ⟨g, 1, none⟩ = some (.slice Am1 mds.length cm1) ∧ w'.cell? ⟨g, 2, none⟩ = some (.bool true) ∧ w'.cell? ⟨g4, 0, none⟩ = some (.string n) ∧ w'.cell? ⟨g4, 1, none⟩ = some (.slice (some ad) m.length c1) ∧ w'.cell? ⟨g4, 2, none⟩ = some (.slice A2 ks.length c2) ∧ w'.cell? (ad.add x6.toNat) = some (.string (rdOf ByteArray.empty m x6))) [14] ⟨bc HZ.out.blk 0, bc HZ.out.blk 1, bc HZ.out.blk 2, bc HZ.out.blk4 0, bc HZ.out.blk4 1, bc HZ.out.blk4 2, ju⟩ (fun hHeld => ?_); refine with_tabW spec_SegOk.tab9 spec_SegOk.bits9 (fun HT_ HW_ => ?_)
             clear ju; generalize qf.drew = w5 at HZ hHeld ⊢; refine go_ ?_ [0, 1, 2, 3, 1004, 5, 1006, 7, 8, 1009] ?_; refine on_ 10 92 (fun K hK => ?_); refine value_ (w1 := ?_) (v := ?_) (by rfl) rfl ?_ ?_
             rotate_left 2
             ·go_simp
              constructor
              ·rfl
              ·rfl
             refine hK.out _ _ ⟨bc (blk_alloc HZ.out.blk _) 0, bc (blk_alloc HZ.out.blk _) 1, bc (blk_alloc HZ.out.blk _) 2, bc (blk_alloc HZ.out.blk4 _) 0, bc (blk_alloc HZ.out.blk4 _) 1, bc (blk_alloc HZ.out.blk4 _) 2, (((HZ.out.below (below_alloc (Below.refl _ _) _)).hB.cell (World.block_lt_of_cell? w0 _ fb.out)).trans fb.out)⟩ (fun hHeld => ?_); clear hK K; refine nm_ ?_; refine on_ 11 93 (fun K hK => ?_); refine Kd.R_append_step Kd.string w0.heap.size (by rfl) (.tmp 86) (.tmp 92) 24 9 (.string ⟨#[]⟩) 16 rfl Try.underlying24 info9 rfl (by decide) (by omega) (.slice Am1 mds.length cm1) mds (rdOf ByteArray.empty m x6) [.string (rdOf ByteArray.empty m x6)] (fun _ => True) (fun _ => False) rfl rfl ?aP (fun _ hk => hk.elim) ?aF ?aO HZ.out.hB ?aS ?aL ?_; (case aP => exact rfl); (case aF => exact (fun _ _ => trivial)); (case aO => exact HZ.out.hM); (case aS => exact HZ.out.hB.size)
             (case aL => have := HL.out; omega); intro v1 w6 ho hb hg hat; rw [← HYM.out] at ho; obtain ⟨Av1, cv1, rfl⟩ := Kd.R_slice ho; have b1 := blk_grown HZ.out.blk hg (Kd.R_ne HZ.out.hM HZ.out.blk (by decide)); have b4 := blk_grown HZ.out.blk4 hg (Kd.R_ne HZ.out.hM HZ.out.blk4 (by decide)); refine hK.out _ _ ⟨bc b1 0, bc b1 1, bc b1 2, bc b4 0, bc b4 1, bc b4 2, (hb.cell (World.block_lt_of_cell? w0 _ fb.out)).trans fb.out⟩ (fun hHeld => ?_); clear hK K; refine nm_ ?_; refine go_ ?_ [12, 13] ?_; refine last_ (i := 14) (N := none) (bz 15 32767) rfl rfl (one_of HT_.out (by kernel_rfl)) (by decide) (fun K hK => ?_); have hs := bc b1 1; have hfs := blk_frozen b1 1; refine skip_ (w1 := ?_) (by rfl) rfl ?_ ?_
             rotate_left
             ·go_simp
              rfl
             refine hK.out _ _ ?_; clear hK K hs hfs hHeld; refine done_ (done_of HT_.out (by kernel_rfl)) ?_; clear HT_ HW_; replace HZ := ak (HZ.out.mod_ ho hb hg hat); clear ho hb hg hat b1 b4; go_wp2; go_roundg k1
             case measure => have := HK1.out; omega
             case rel => exact ⟨wrap64 (x6 + 1), mz, true, _, _, z_6, H', ⟨by have := HK1.out; omega⟩, HZ⟩
            | true =>
             rw [if_pos rfl] at H; obtain ⟨j, AJ, H⟩ := Option.bind_eq_some_iff.mp H; replace AJ := ak AJ
             by_cases jy : j ≥ 0
             ·rw [if_pos jy] at H; have a9d : decide (0 ≤ j) = true := decide_eq_true jy; clear jy; have H' := ak H; clear H; replace HZ := ak (HZ.out.below (below_drew (Below.refl _ wr))); have ju := (HZ.out.hB.cell (World.block_lt_of_cell? w0 _ fb.out)).trans fb.out; refine st_ 20 (fun w' => w'.cell? ⟨g, 0, none⟩ = some (.slice An1 ny.length cn1) ∧ w'.cell? ⟨g, 1, none⟩ = some (.slice Am1 mds.length cm1) ∧ w'.cell? ⟨g, 2, none⟩ = some (.bool bd) ∧ w'.cell? ⟨g4, 0, none⟩ = some (.string n) ∧ w'.cell? ⟨g4, 1, none⟩ = some (.slice (some ad) m.length c1) ∧ w'.cell? ⟨g4, 2, none⟩ = some (.slice A2 ks.length c2) ∧ w'.cell? (ad.add x6.toNat) = some (.string (rdOf ByteArray.empty m x6))) [] ⟨bc HZ.out.blk 0, bc HZ.out.blk 1, bc HZ.out.blk 2, bc HZ.out.blk4 0, bc HZ.out.blk4 1, bc HZ.out.blk4 2, ju⟩ (fun hHeld => ?_); refine with_tabW spec_SegOk.tab7 spec_SegOk.bits7 (fun HT_ HW_ => ?_)
              clear ju; generalize wr.drew = w8 at HZ hHeld ⊢; refine go_ ?_ [0, 1001, 2, 3, 1004] ?_; refine on_ 5 64 (fun K hK => ?_); refine gs_ Try.func60 #[.string (rdOf ByteArray.empty m x6)] ?_; refine (spec_l9Name.calls k1 (rdOf ByteArray.empty m x6) true _ AQ.out).mono ?_; rintro e w_ ⟨rfl, hb⟩; refine ⟨_, rfl, ?_⟩; replace HZ := ak (HZ.out.below hb); refine hK.out _ _ ⟨bc HZ.out.blk 0, bc HZ.out.blk 1, bc HZ.out.blk 2, bc HZ.out.blk4 0, bc HZ.out.blk4 1, bc HZ.out.blk4 2, (HZ.out.hB.cell (World.block_lt_of_cell? w0 _ fb.out)).trans fb.out⟩ (fun hHeld => ?_); clear hK K; refine nm_ ?_; clear hb; refine go_ ?_ [6, 7, 8, 9, 10, 1011, 12, 1013, 14, 15, 1016] ?_; refine on_ 17 76 (fun K hK => ?_); refine gs_ Try.func46 #[.slice Am1 mds.length cm1, .string (rdOf ByteArray.empty m x6)] ?_; refine (spec_l9At.calls k1 _ _ mds (rdOf ByteArray.empty m x6) j _ (Kd.R_reads' HZ.out.hM).2.2 (Kd.R_reads' HZ.out.hM).2.1 AJ.out).mono ?_
              rintro e w4 ⟨rfl, hd⟩; have hb := spec_SegOk.db hd; clear hd; refine ⟨_, rfl, ?_⟩; replace HZ := ak (HZ.out.below hb); refine hK.out _ _ ⟨bc HZ.out.blk 0, bc HZ.out.blk 1, bc HZ.out.blk 2, bc HZ.out.blk4 0, bc HZ.out.blk4 1, bc HZ.out.blk4 2, (HZ.out.hB.cell (World.block_lt_of_cell? w0 _ fb.out)).trans fb.out⟩ (fun hHeld => ?_); clear hK K; refine nm_ ?_; clear hb; refine go_ ?_ [18, 19] ?_; refine done_ (done_of HT_.out (by kernel_rfl)) ?_; clear HT_ HW_ hHeld; have hz0 := bc HZ.out.blk 2; have hz1 := blk_frozen HZ.out.blk 2
              go_upto_region 9 with (fail)
              (try simp only [Act.put, List.setIfInBounds_toArray, List.set_cons_zero, List.set_cons_succ]); clear hz0 hz1; replace HZ := ak HZ.out.bad_; generalize World.setCell _ _ _ = qf at HZ ⊢; replace HZ := ak (HZ.out.below (below_drew (Below.refl _ qf))); have ju := (HZ.out.hB.cell (World.block_lt_of_cell? w0 _ fb.out)).trans fb.out; refine st_ 15 (fun w' => w'.cell? ⟨g, 0, none⟩ = some (.slice An1 ny.length cn1) ∧ w'.cell? ⟨g, 1, none⟩ = some (.slice Am1 mds.length cm1) ∧ w'.cell? ⟨g, 2, none⟩ = some (.bool true) ∧ w'.cell? ⟨g4, 0, none⟩ = some (.string n) ∧ w'.cell? ⟨g4, 1, none⟩ = some (.slice (some ad) m.length c1) ∧ w'.cell? ⟨g4, 2, none⟩ = some (.slice A2 ks.length c2) ∧ w'.cell? (ad.add x6.toNat) = some (.string (rdOf ByteArray.empty m x6))) [14] ⟨bc HZ.out.blk 0, bc HZ.out.blk 1, bc HZ.out.blk 2, bc HZ.out.blk4 0, bc HZ.out.blk4 1, bc HZ.out.blk4 2, ju⟩ (fun hHeld => ?_); refine with_tabW spec_SegOk.tab9 spec_SegOk.bits9 (fun HT_ HW_ => ?_)
              clear ju; generalize qf.drew = w5 at HZ hHeld ⊢; refine go_ ?_ [0, 1, 2, 3, 1004, 5, 1006, 7, 8, 1009] ?_; refine on_ 10 92 (fun K hK => ?_); refine value_ (w1 := ?_) (v := ?_) (by rfl) rfl ?_ ?_
              rotate_left 2
              ·go_simp
               constructor
               ·rfl
               ·rfl
              refine hK.out _ _ ⟨bc (blk_alloc HZ.out.blk _) 0, bc (blk_alloc HZ.out.blk _) 1, bc (blk_alloc HZ.out.blk _) 2, bc (blk_alloc HZ.out.blk4 _) 0, bc (blk_alloc HZ.out.blk4 _) 1, bc (blk_alloc HZ.out.blk4 _) 2, (((HZ.out.below (below_alloc (Below.refl _ _) _)).hB.cell (World.block_lt_of_cell? w0 _ fb.out)).trans fb.out)⟩ (fun hHeld => ?_); clear hK K; refine nm_ ?_; refine on_ 11 93 (fun K hK => ?_); refine Kd.R_append_step Kd.string w0.heap.size (by rfl) (.tmp 86) (.tmp 92) 24 9 (.string ⟨#[]⟩) 16 rfl Try.underlying24 info9 rfl (by decide) (by omega) (.slice Am1 mds.length cm1) mds (rdOf ByteArray.empty m x6) [.string (rdOf ByteArray.empty m x6)] (fun _ => True) (fun _ => False) rfl rfl ?aP (fun _ hk => hk.elim) ?aF ?aO HZ.out.hB ?aS ?aL ?_; (case aP => exact rfl); (case aF => exact (fun _ _ => trivial)); (case aO => exact HZ.out.hM); (case aS => exact HZ.out.hB.size)
              (case aL => have := HL.out; omega); intro v1 w6 ho hb hg hat; rw [← HYM.out] at ho; obtain ⟨Av1, cv1, rfl⟩ := Kd.R_slice ho; have b1 := blk_grown HZ.out.blk hg (Kd.R_ne HZ.out.hM HZ.out.blk (by decide)); have b4 := blk_grown HZ.out.blk4 hg (Kd.R_ne HZ.out.hM HZ.out.blk4 (by decide)); refine hK.out _ _ ⟨bc b1 0, bc b1 1, bc b1 2, bc b4 0, bc b4 1, bc b4 2, (hb.cell (World.block_lt_of_cell? w0 _ fb.out)).trans fb.out⟩ (fun hHeld => ?_); clear hK K; refine nm_ ?_; refine go_ ?_ [12, 13] ?_; refine last_ (i := 14) (N := none) (bz 15 32767) rfl rfl (one_of HT_.out (by kernel_rfl)) (by decide) (fun K hK => ?_); have hs := bc b1 1; have hfs := blk_frozen b1 1; refine skip_ (w1 := ?_) (by rfl) rfl ?_ ?_
              rotate_left
              ·go_simp
               rfl
              refine hK.out _ _ ?_; clear hK K hs hfs hHeld; refine done_ (done_of HT_.out (by kernel_rfl)) ?_; clear HT_ HW_; replace HZ := ak (HZ.out.mod_ ho hb hg hat); clear ho hb hg hat b1 b4; go_wp2; go_roundg k1
              case measure => have := HK1.out; omega
              case rel => exact ⟨wrap64 (x6 + 1), mz, true, _, _, z_6, H', ⟨by have := HK1.out; omega⟩, HZ⟩
             ·rw [if_neg jy] at H; have a9d : decide (0 ≤ j) = false := decide_eq_false jy; clear jy; have H' := ak H; clear H; replace HZ := ak (HZ.out.below (below_drew (Below.refl _ wr))); have ju := (HZ.out.hB.cell (World.block_lt_of_cell? w0 _ fb.out)).trans fb.out; refine st_ 20 (fun w' => w'.cell? ⟨g, 0, none⟩ = some (.slice An1 ny.length cn1) ∧ w'.cell? ⟨g, 1, none⟩ = some (.slice Am1 mds.length cm1) ∧ w'.cell? ⟨g, 2, none⟩ = some (.bool bd) ∧ w'.cell? ⟨g4, 0, none⟩ = some (.string n) ∧ w'.cell? ⟨g4, 1, none⟩ = some (.slice (some ad) m.length c1) ∧ w'.cell? ⟨g4, 2, none⟩ = some (.slice A2 ks.length c2) ∧ w'.cell? (ad.add x6.toNat) = some (.string (rdOf ByteArray.empty m x6))) [] ⟨bc HZ.out.blk 0, bc HZ.out.blk 1, bc HZ.out.blk 2, bc HZ.out.blk4 0, bc HZ.out.blk4 1, bc HZ.out.blk4 2, ju⟩ (fun hHeld => ?_); refine with_tabW spec_SegOk.tab7 spec_SegOk.bits7 (fun HT_ HW_ => ?_)
              clear ju; generalize wr.drew = w8 at HZ hHeld ⊢; refine go_ ?_ [0, 1001, 2, 3, 1004] ?_; refine on_ 5 64 (fun K hK => ?_); refine gs_ Try.func60 #[.string (rdOf ByteArray.empty m x6)] ?_; refine (spec_l9Name.calls k1 (rdOf ByteArray.empty m x6) true _ AQ.out).mono ?_; rintro e w_ ⟨rfl, hb⟩; refine ⟨_, rfl, ?_⟩; replace HZ := ak (HZ.out.below hb); refine hK.out _ _ ⟨bc HZ.out.blk 0, bc HZ.out.blk 1, bc HZ.out.blk 2, bc HZ.out.blk4 0, bc HZ.out.blk4 1, bc HZ.out.blk4 2, (HZ.out.hB.cell (World.block_lt_of_cell? w0 _ fb.out)).trans fb.out⟩ (fun hHeld => ?_); clear hK K; refine nm_ ?_; clear hb; refine go_ ?_ [6, 7, 8, 9, 10, 1011, 12, 1013, 14, 15, 1016] ?_; refine on_ 17 76 (fun K hK => ?_); refine gs_ Try.func46 #[.slice Am1 mds.length cm1, .string (rdOf ByteArray.empty m x6)] ?_; refine (spec_l9At.calls k1 _ _ mds (rdOf ByteArray.empty m x6) j _ (Kd.R_reads' HZ.out.hM).2.2 (Kd.R_reads' HZ.out.hM).2.1 AJ.out).mono ?_
              rintro e w4 ⟨rfl, hd⟩; have hb := spec_SegOk.db hd; clear hd; refine ⟨_, rfl, ?_⟩; replace HZ := ak (HZ.out.below hb); refine hK.out _ _ ⟨bc HZ.out.blk 0, bc HZ.out.blk 1, bc HZ.out.blk 2, bc HZ.out.blk4 0, bc HZ.out.blk4 1, bc HZ.out.blk4 2, (HZ.out.hB.cell (World.block_lt_of_cell? w0 _ fb.out)).trans fb.out⟩ (fun hHeld => ?_); clear hK K; refine nm_ ?_; clear hb; refine go_ ?_ [18, 19] ?_; refine done_ (done_of HT_.out (by kernel_rfl)) ?_; clear HT_ HW_ hHeld
              go_upto_region 9 with (fail)
              (try simp only [Act.put, List.setIfInBounds_toArray, List.set_cons_zero, List.set_cons_succ]); replace HZ := ak (HZ.out.below (below_drew (Below.refl _ w4))); have ju := (HZ.out.hB.cell (World.block_lt_of_cell? w0 _ fb.out)).trans fb.out; refine st_ 15 (fun w' => w'.cell? ⟨g, 0, none⟩ = some (.slice An1 ny.length cn1) ∧ w'.cell? ⟨g, 1, none⟩ = some (.slice Am1 mds.length cm1) ∧ w'.cell? ⟨g, 2, none⟩ = some (.bool bd) ∧ w'.cell? ⟨g4, 0, none⟩ = some (.string n) ∧ w'.cell? ⟨g4, 1, none⟩ = some (.slice (some ad) m.length c1) ∧ w'.cell? ⟨g4, 2, none⟩ = some (.slice A2 ks.length c2) ∧ w'.cell? (ad.add x6.toNat) = some (.string (rdOf ByteArray.empty m x6))) [14] ⟨bc HZ.out.blk 0, bc HZ.out.blk 1, bc HZ.out.blk 2, bc HZ.out.blk4 0, bc HZ.out.blk4 1, bc HZ.out.blk4 2, ju⟩ (fun hHeld => ?_); refine with_tabW spec_SegOk.tab9 spec_SegOk.bits9 (fun HT_ HW_ => ?_); clear ju
              generalize w4.drew = w5 at HZ hHeld ⊢; refine go_ ?_ [0, 1, 2, 3, 1004, 5, 1006, 7, 8, 1009] ?_; refine on_ 10 92 (fun K hK => ?_); refine value_ (w1 := ?_) (v := ?_) (by rfl) rfl ?_ ?_
              rotate_left 2
              ·go_simp
               constructor
               ·rfl
               ·rfl
              refine hK.out _ _ ⟨bc (blk_alloc HZ.out.blk _) 0, bc (blk_alloc HZ.out.blk _) 1, bc (blk_alloc HZ.out.blk _) 2, bc (blk_alloc HZ.out.blk4 _) 0, bc (blk_alloc HZ.out.blk4 _) 1, bc (blk_alloc HZ.out.blk4 _) 2, (((HZ.out.below (below_alloc (Below.refl _ _) _)).hB.cell (World.block_lt_of_cell? w0 _ fb.out)).trans fb.out)⟩ (fun hHeld => ?_); clear hK K; refine nm_ ?_; refine on_ 11 93 (fun K hK => ?_); refine Kd.R_append_step Kd.string w0.heap.size (by rfl) (.tmp 86) (.tmp 92) 24 9 (.string ⟨#[]⟩) 16 rfl Try.underlying24 info9 rfl (by decide) (by omega) (.slice Am1 mds.length cm1) mds (rdOf ByteArray.empty m x6) [.string (rdOf ByteArray.empty m x6)] (fun _ => True) (fun _ => False) rfl rfl ?aP (fun _ hk => hk.elim) ?aF ?aO HZ.out.hB ?aS ?aL ?_; (case aP => exact rfl); (case aF => exact (fun _ _ => trivial)); (case aO => exact HZ.out.hM); (case aS => exact HZ.out.hB.size)
              (case aL => have := HL.out; omega); intro v1 w6 ho hb hg hat; rw [← HYM.out] at ho; obtain ⟨Av1, cv1, rfl⟩ := Kd.R_slice ho; have b1 := blk_grown HZ.out.blk hg (Kd.R_ne HZ.out.hM HZ.out.blk (by decide)); have b4 := blk_grown HZ.out.blk4 hg (Kd.R_ne HZ.out.hM HZ.out.blk4 (by decide)); refine hK.out _ _ ⟨bc b1 0, bc b1 1, bc b1 2, bc b4 0, bc b4 1, bc b4 2, (hb.cell (World.block_lt_of_cell? w0 _ fb.out)).trans fb.out⟩ (fun hHeld => ?_); clear hK K; refine nm_ ?_; refine go_ ?_ [12, 13] ?_; refine last_ (i := 14) (N := none) (bz 15 32767) rfl rfl (one_of HT_.out (by kernel_rfl)) (by decide) (fun K hK => ?_); have hs := bc b1 1; have hfs := blk_frozen b1 1; refine skip_ (w1 := ?_) (by rfl) rfl ?_ ?_
              rotate_left
              ·go_simp
               rfl
              refine hK.out _ _ ?_; clear hK K hs hfs hHeld; refine done_ (done_of HT_.out (by kernel_rfl)) ?_; clear HT_ HW_; replace HZ := ak (HZ.out.mod_ ho hb hg hat); clear ho hb hg hat b1 b4; go_wp2; go_roundg k1
              case measure => have := HK1.out; omega
              case rel => exact ⟨wrap64 (x6 + 1), mz, bd, _, _, z_6, H', ⟨by have := HK1.out; omega⟩, HZ⟩
           ·rw [if_neg dw] at H; cases H
          ·rw [if_neg ew] at H; exact absurd H (by simp)
         ·rw [if_neg c9] at H; have si := decide_eq_false c9; clear c9; have H' := ak H; clear H; go_wp2; clear hz4
          go_loopg [7] k1 (fun kq v7 w' => ∃ (x7 : Int) (nms mds : List ByteArray) (bd : Bool) (vn1 vm1 : Value), v7 = .int .i64 x7 ∧ Aside0 (spec_SegOk.wl kq nms mds bd ks dp x7 = some (nm', md', bad')) ∧ Aside0 (kq ≤ k1) ∧ Aside0 (spec_SegOk.Zs w0 w w' g g4 vn1 vm1 nms mds bd #[.string n, .slice A1 m.length c1, .slice A2 ks.length c2]))
          case atStart => exact ⟨0, ny, mds, bd, _, _, z_6, H', ⟨Nat.le_refl _⟩, HZ⟩
          case round =>
           clear H' HZ; obtain ⟨x7, nms, mds, bd, vn1, vm1, rfl, HA, HK2, HZ⟩ := hrel
           cases gk with
           | zero => exact absurd HA.out (by simp [spec_SegOk.wl])
           | succ k2 =>
            have H := HA.out; clear HA; simp only [spec_SegOk.wl] at H; have hz4 := bc HZ.out.blk4 2
            by_cases ga : x7 < (ks.length : Int)
            ·rw [if_pos ga] at H; have a2o := decide_eq_true ga; clear ga
             by_cases la : 0 ≤ x7
             ·rw [if_pos la] at H; have a0y := decide_eq_true la; clear la; obtain ⟨⟨t1, t2, t3⟩, AT, H⟩ := Option.bind_eq_some_iff.mp H; replace AT := ak AT; have H' := ak H; clear H; have p6 : 0 ≤ (x7 : Int) := of_decide_eq_true z_9; have q6 : x7 < (ks.length : Int) := of_decide_eq_true z_9; obtain ⟨ad, E1, e1, E2, e2, e6, fb, ju, hx2, hl1, hi1, ud, hi2⟩ := at_T27 ff.out x7 p6 q6; cases e6; have HE1 := ak hi1; have HL1 := ak hl1; have HE2 := ak hi2; have HL2 := ak ud; clear hi1 hl1 hi2 ud; replace fb := (HZ.out.hB.cell (World.block_lt_of_cell? w0 _ fb)).trans fb; replace ju := (HZ.out.hB.cell (World.block_lt_of_cell? w0 _ ju)).trans ju; replace hx2 := (HZ.out.hB.cell (World.block_lt_of_cell? w0 _ hx2)).trans hx2; replace p6 := eq_true p6; replace q6 := eq_true q6; go_wp2_with (first | ((with_reducible refine gate_callee (f := 53) rfl ?_); refine gl_ 111 Try.func53 #[.pointer (some ⟨g, 0, none⟩), .agg #[.string ((rd_T27 ks x7).f0), .slice E1 ((rd_T27 ks x7).f1).length e1, .slice E2 ((rd_T27 ks x7).f2).length e2], .int .i64 (wrap64 (dp + 1))] ?_; refine (ih k2 (z_20 HK1.out HK2.out) nms mds bd ((rd_T27 ks x7).f0) _ _ ((rd_T27 ks x7).f1) _ _ ((rd_T27 ks x7).f2) (wrap64 (dp + 1)) t1 t2 t3 w0 _ g _ _ HE1.out HL1.out HE2.out HL2.out HZ.out.ss AT.out).mono ?_; rintro e w9 ⟨rfl, vn2, vm2, hs, hf⟩; refine ⟨_, rfl, ?_⟩; replace HZ := ak (HZ.out.call hs hf); clear hs hf))
              go_roundg k2
              case measure => have := HK2.out; omega
              case rel => exact ⟨wrap64 (x7 + 1), t1, t2, t3, _, _, z_6, H', ⟨by have := HK2.out; omega⟩, HZ⟩
             ·rw [if_neg la] at H; exact absurd H (by simp)
            ·rw [if_neg ga] at H; have a2o := decide_eq_false ga; clear ga; simp only [Option.some.injEq, Prod.mk.injEq] at H; obtain ⟨rfl, rfl, rfl⟩ := H; go_wp2
             go_end0
             exact HZ.out.done
      ·rw [if_neg c8] at H1; cases H1
set_option maxHeartbeats 8000000 in
set_option maxRecDepth 100000 in
theorem spec_SegOk.calls (k : Nat) (ae : ByteArray) (am : Option Addr) (an : Nat) (ac : List ByteArray) (ar : Option Addr) (ao : Nat) (ab : List (S27)) (r : Bool) (w : World) (hr0_1 : Kd.C Kd.string w am ac.length ac) (hc0_1 : ac.length ≤ an) (hr0_2 : Kd.C k27 w ar ab.length ab) (hc0_2 : ab.length ≤ ao) (h : spec_SegOk.f k ae ac ab = some r) :
 Calls Try.prog 38 #[.agg #[.string ae, .slice am ac.length an, .slice ar ab.length ao]] w fun e w' => e = .returned (.bool r) ∧ Below w.heap.size w w' := by
 have hu27 := Try.underlying27; have hu72 := Try.underlying72; have el := ak hr0_1; have ex := ak hc0_1; have ff := ak hr0_2; have gb := ak hc0_2; clear hr0_1 hc0_1 hr0_2 hc0_2; have HB := ak (Below.refl w.heap.size w); unfold spec_SegOk.f at h; obtain ⟨⟨t1, t2, t3⟩, AT, H⟩ := Option.bind_eq_some_iff.mp h; obtain rfl := Option.some.inj H; clear h H; replace AT := ak AT
 cases t3 with
 | true =>
  go_enter Try.func38, Try.ntmps38
  go_wp2_with (first | ((with_reducible refine gate_dst (N := 1) rfl ?_); refine box_event ?hg (N := 1) ?hd (cs := #[.string ae, .slice am ac.length an, .slice ar ab.length ao]) (t := 27) ?hr ?_; (case hd => rfl); (case hg => rfl); (case hr => first | (go_simp; done) | (go_simp; rfl)); intro g1 hg w_g1 hbox hb; have jk := ak hbox; replace HB := ak (below_step HB.out hb); clear hg hbox hb; have hc0 := bc jk.out 0; have hc1 := bc jk.out 1; have hc2 := bc jk.out 2) | ((with_reducible refine gate_dst (N := 5) rfl ?_); refine box_event ?hg (N := 5) ?hd (cs := #[.slice none 0 0, .slice none 0 0, .bool false]) (t := 72) ?hr ?_; (case hd => rfl); (case hg => rfl); (case hr => first | (go_simp; done) | (go_simp; rfl)); intro g5 hg w_g5 hbox hb; have GE5 := ak (show w.heap.size ≤ g5 by rw [hg]; exact HB.out.size); replace jk := bb jk hb; have BK5 := ak hbox; replace HB := ak (below_step HB.out hb); clear hg hbox hb; have hd0 := bc jk.out 0; have hd1 := bc jk.out 1; have hd2 := bc jk.out 2) | ((with_reducible refine gate_callee (f := 53) rfl ?_); refine gl_ 8 Try.func53 #[.pointer (some ⟨g5, 0, none⟩), .agg #[.string ae, .slice am ac.length an, .slice ar ab.length ao], .int .i64 1] ?_; refine (spec_SegOk.wcalls k [] [] false ae _ _ ac _ _ ab 1 t1 t2 _ w _ g5 _ _ el.out ex.out ff.out gb.out ⟨BK5.out, Kd.R_nil _ _ _ _ _, Kd.R_nil _ _ _ _ _, GE5.out, HB.out⟩ AT.out).mono ?_; rintro e w9 ⟨rfl, vn, vm, hs, _⟩; refine ⟨_, rfl, ?_⟩; obtain ⟨An, cn, rfl⟩ := Kd.R_slice hs.hN; have HSS := ak hs; clear hs; have he0 := bc HSS.out.blk 0; have he2 := bc HSS.out.blk 2))
  go_ret; exact ⟨rfl, HSS.out.hB⟩
 | false =>
  by_cases c : (t1.length : Int) ≤ 12
  ·have c1 : decide ((t1.length : Int) ≤ 12) = true := decide_eq_true c; have c2 : decide (t1.length ≤ 12) = true := decide_eq_true (by omega); clear c
   go_enter Try.func38, Try.ntmps38
   go_wp2_with (first | ((with_reducible refine gate_dst (N := 1) rfl ?_); refine box_event ?hg (N := 1) ?hd (cs := #[.string ae, .slice am ac.length an, .slice ar ab.length ao]) (t := 27) ?hr ?_; (case hd => rfl); (case hg => rfl); (case hr => first | (go_simp; done) | (go_simp; rfl)); intro g1 hg w_g1 hbox hb; have jk := ak hbox; replace HB := ak (below_step HB.out hb); clear hg hbox hb; have hc0 := bc jk.out 0; have hc1 := bc jk.out 1; have hc2 := bc jk.out 2) | ((with_reducible refine gate_dst (N := 5) rfl ?_); refine box_event ?hg (N := 5) ?hd (cs := #[.slice none 0 0, .slice none 0 0, .bool false]) (t := 72) ?hr ?_; (case hd => rfl); (case hg => rfl); (case hr => first | (go_simp; done) | (go_simp; rfl)); intro g5 hg w_g5 hbox hb; have GE5 := ak (show w.heap.size ≤ g5 by rw [hg]; exact HB.out.size); replace jk := bb jk hb; have BK5 := ak hbox; replace HB := ak (below_step HB.out hb); clear hg hbox hb; have hd0 := bc jk.out 0; have hd1 := bc jk.out 1; have hd2 := bc jk.out 2) | ((with_reducible refine gate_callee (f := 53) rfl ?_); refine gl_ 8 Try.func53 #[.pointer (some ⟨g5, 0, none⟩), .agg #[.string ae, .slice am ac.length an, .slice ar ab.length ao], .int .i64 1] ?_; refine (spec_SegOk.wcalls k [] [] false ae _ _ ac _ _ ab 1 t1 t2 _ w _ g5 _ _ el.out ex.out ff.out gb.out ⟨BK5.out, Kd.R_nil _ _ _ _ _, Kd.R_nil _ _ _ _ _, GE5.out, HB.out⟩ AT.out).mono ?_; rintro e w9 ⟨rfl, vn, vm, hs, _⟩; refine ⟨_, rfl, ?_⟩; obtain ⟨An, cn, rfl⟩ := Kd.R_slice hs.hN; have HSS := ak hs; clear hs; have he0 := bc HSS.out.blk 0; have he2 := bc HSS.out.blk 2))
   go_ret; exact ⟨by first | rfl | simp [c1] | simp [c2], HSS.out.hB⟩
  ·have c1 : decide ((t1.length : Int) ≤ 12) = false := decide_eq_false c; have c2 : decide (t1.length ≤ 12) = false := decide_eq_false (by omega); clear c
   go_enter Try.func38, Try.ntmps38
   go_wp2_with (first | ((with_reducible refine gate_dst (N := 1) rfl ?_); refine box_event ?hg (N := 1) ?hd (cs := #[.string ae, .slice am ac.length an, .slice ar ab.length ao]) (t := 27) ?hr ?_; (case hd => rfl); (case hg => rfl); (case hr => first | (go_simp; done) | (go_simp; rfl)); intro g1 hg w_g1 hbox hb; have jk := ak hbox; replace HB := ak (below_step HB.out hb); clear hg hbox hb; have hc0 := bc jk.out 0; have hc1 := bc jk.out 1; have hc2 := bc jk.out 2) | ((with_reducible refine gate_dst (N := 5) rfl ?_); refine box_event ?hg (N := 5) ?hd (cs := #[.slice none 0 0, .slice none 0 0, .bool false]) (t := 72) ?hr ?_; (case hd => rfl); (case hg => rfl); (case hr => first | (go_simp; done) | (go_simp; rfl)); intro g5 hg w_g5 hbox hb; have GE5 := ak (show w.heap.size ≤ g5 by rw [hg]; exact HB.out.size); replace jk := bb jk hb; have BK5 := ak hbox; replace HB := ak (below_step HB.out hb); clear hg hbox hb; have hd0 := bc jk.out 0; have hd1 := bc jk.out 1; have hd2 := bc jk.out 2) | ((with_reducible refine gate_callee (f := 53) rfl ?_); refine gl_ 8 Try.func53 #[.pointer (some ⟨g5, 0, none⟩), .agg #[.string ae, .slice am ac.length an, .slice ar ab.length ao], .int .i64 1] ?_; refine (spec_SegOk.wcalls k [] [] false ae _ _ ac _ _ ab 1 t1 t2 _ w _ g5 _ _ el.out ex.out ff.out gb.out ⟨BK5.out, Kd.R_nil _ _ _ _ _, Kd.R_nil _ _ _ _ _, GE5.out, HB.out⟩ AT.out).mono ?_; rintro e w9 ⟨rfl, vn, vm, hs, _⟩; refine ⟨_, rfl, ?_⟩; obtain ⟨An, cn, rfl⟩ := Kd.R_slice hs.hN; have HSS := ak hs; clear hs; have he0 := bc HSS.out.blk 0; have he2 := bc HSS.out.blk 2))
   go_ret; exact ⟨by first | rfl | simp [c1] | simp [c2], HSS.out.hB⟩
end Go.Proofs.Ytdphpmejjlgpnaa.PFnTreesBent

