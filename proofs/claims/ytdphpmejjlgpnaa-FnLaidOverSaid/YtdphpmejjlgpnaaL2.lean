import Derived.Test.YtdphpmejjlgpnaaL0
import Derived.Test.YtdphpmejjlgpnaaL1
import Derived.Test.YtdphpmejjlgpnaaLZ
namespace Go.Proofs.Ytdphpmejjlgpnaa.PFnLaidOver
open Go.RowKit Go.Proofs.YtdphpmejjlgpnaaW.PrintWords Go.Proofs.YtdphpmejjlgpnaaW.PrintLast Go.Proofs.YtdphpmejjlgpnaaW.PrintMore
attribute [local go_sem] max2_int min2_int max_two min_two max_three min_three max_four min_four
theorem info27 : (Try.prog.info? 27).map (fun i => (i.zero, i.size, i.bytes)) = some (some (.agg #[(.string ⟨#[]⟩), (.slice none 0 0), (.slice none 0 0)]), 3, 64) := by kernel_rfl
section
variable {α : Type} {d : Kd α} {e : Nat} {w : World} {base : Nat} {ok : Nat → Prop}
theorem raws {A : Option Addr} {n c : Nat} {xs : List α} (h : d.R e w base ok (.slice A n c) xs) : ∃ rows : List (List Value), rows.length = xs.length ∧ n = xs.length ∧
 (∀ j x, xs[j]? = some x → d.M w base (fun k => ok k ∧ some k ≠ (Value.slice A n c).ownBlock) x (rows.getD j [])) ∧ (Kd.raw d.sz).C w A n rows := by
 have hn := (Kd.R_reads' h).1
 obtain ⟨h0, inner, ho, hl, hr⟩ := h
 have hR : (Kd.raw d.sz).R e w base (fun _ => True) (.slice A n c) ((List.range xs.length).map fun j => (inner.drop (j * d.sz)).take d.sz) := by
  refine ⟨fun _ _ => trivial, inner, by rw [List.length_map, List.length_range]; exact ho, by rw [List.length_map, List.length_range]; exact hl, fun j p hj => ?_⟩
  rw [List.getElem?_map] at hj
  obtain ⟨j', hj', rfl⟩ := Option.map_eq_some_iff.1 hj
  obtain ⟨hl', he⟩ := List.getElem?_eq_some_iff.1 hj'
  rw [List.getElem_range] at he
  subst he
  rw [List.length_range] at hl'
  have hm := d.K_of_M (hr j _ (List.getElem?_eq_getElem hl'))
  exact ⟨rfl, d.K_len hm, d.K_one hm⟩
 refine ⟨(List.range xs.length).map fun j => (inner.drop (j * d.sz)).take d.sz, by rw [List.length_map, List.length_range], hn, fun j x hx => ?_, ?_⟩
 ·have hl' := (List.getElem?_eq_some_iff.1 hx).1
  rw [List.getD_eq_getElem?_getD, List.getElem?_map, List.getElem?_eq_getElem (by rw [List.length_range]; exact hl'), List.getElem_range]
  exact hr j x hx
 ·have h3 := (Kd.R_reads' hR).2.2
  have h4 := (Kd.R_reads' hR).1
  rwa [← h4] at h3
theorem of_raws {v : Value} {xs : List α} {rows : List (List Value)} (h : (Kd.raw d.sz).R e w base (fun _ => True) v rows) (h0 : ∀ k, v.ownBlock = some k → ok k) (hl : rows.length = xs.length)
 (hm : ∀ j x, xs[j]? = some x → d.M w base (fun k => ok k ∧ some k ≠ v.ownBlock) x (rows.getD j [])) : d.R e w base ok v xs := by
 obtain ⟨_, inner, ho, hr1, hr2⟩ := h
 refine ⟨h0, inner, by rw [← hl]; exact ho, by rw [← hl]; exact hr1, fun j x hx => ?_⟩
 have hj := (List.getElem?_eq_some_iff.1 hx).1
 have h2 := hr2 j (rows.getD j []) (by rw [List.getD_eq_getElem?_getD, List.getElem?_eq_getElem (by omega)]; rfl)
 have h3 := hm j x hx
 have h4 : List.take d.sz (List.drop (j * d.sz) inner) = rows.getD j [] := h2.1
 rw [h4]
 exact h3
end
theorem raw_one (w : World) (base : Nat) (okp : Nat → Prop) (c : List Value) (hc : c.length = 3) (h1 : ∀ u ∈ c, u.oneCell' = true) : Reps ((Kd.raw 3).M w base okp) 3 [c] c :=
 ⟨by simp [hc], fun j p hj => by
  cases j with
  | zero =>
   obtain rfl := Option.some.inj hj
   exact ⟨by rw [Nat.zero_mul, List.drop_zero, ← hc, List.take_length], by rw [Nat.zero_mul, List.drop_zero, ← hc, List.take_length], by rw [Nat.zero_mul, List.drop_zero, ← hc, List.take_length]; exact h1⟩
  | succ j => cases hj⟩
theorem raw_ok {n e base : Nat} {w : World} {ok ok' : Nat → Prop} {v : Value} {xs : List (List Value)} (h : (Kd.raw n).R e w base ok v xs) (hk : ∀ k, v.ownBlock = some k → ok' k) : (Kd.raw n).R e w base ok' v xs := ⟨hk, h.2⟩
theorem raw_grown {n e base : Nat} {w w1 : World} {ok : Nat → Prop} {v : Value} {row : Option Nat} {xs : List (List Value)} (h : (Kd.raw n).R e w base ok v xs) (hg : w.grownBy w1 row) (hne : ∀ k, v.ownBlock = some k → some k ≠ row) : (Kd.raw n).R e w1 base ok v xs :=
 raw_ok (Kd.R_grown (raw_ok (ok' := fun k => some k ≠ row) h hne) hg (fun _ hk => hk)) h.1
def spec_l22Draw.T15 : Bool × List (List Nat × List Nat) := (true, [([], []), ([], []), ([], []), ([2], [2]), ([3], [3]), ([4], [4]), ([1, 5], [1, 5]), ([], []), ([7], [7]), ([6, 8, 6], [6, 8]), ([0, 0, 1, 2, 3, 4, 5, 6, 7, 8, 9], [0]), ([10, 0, 1, 2, 3, 4, 5, 6, 7, 8, 9], [10]), ([11, 9, 9, 0, 1, 2, 3, 4, 5, 6, 7, 8, 9], [9, 11])])
def spec_l22Draw.B15 : List Nat := [0, 0, 0, 4, 12, 28, 62, 0, 128, 510, 1023, 2047, 4095]
theorem spec_l22Draw.tab15 : rtab .any (opsOf Try.f26 15) = spec_l22Draw.T15 := by kernel_rfl
theorem spec_l22Draw.bits15 : waitsOk spec_l22Draw.T15.2 spec_l22Draw.B15 = true := by kernel_rfl
mutual
def spec_l22Draw.l0 : Nat → List ByteArray → Int → List Int → Int → Int → ByteArray → List ByteArray → List (S27) → Option (ByteArray × List ByteArray × (List (S27)) × Int × Int)
 | 0, _, _, _, _, _, _, _, _ => none
 | k + 1, x3, x5, x1000, x1001, x1002, x136000, x136001, x136002 => (spec_l1Below.f x1000 x1001 x1002 6).bind fun bt136 => (if x5 < (wrap64 (2 + bt136.1)) then (if 0 ≤ (Int.tmod x5 7) then (if (Int.tmod x5 7) < (x3.length : Int) then ((spec_l1Below.f x1000 bt136.2.1 bt136.2.2 3).bind fun bt141 => (spec_l22Draw.l1 k x3 x5 bt141.1 x1000 bt141.2.1 bt141.2.2 x136000 x136001 x136002 (rdOf ByteArray.empty x3 (Int.tmod x5 7)) ([] : List ByteArray))) else (none)) else (none)) else (some (x136000, x136001, x136002, bt136.2.1, bt136.2.2)))
def spec_l22Draw.l1 : Nat → List ByteArray → Int → Int → List Int → Int → Int → ByteArray → List ByteArray → List (S27) → ByteArray → List ByteArray → Option (ByteArray × List ByteArray × (List (S27)) × Int × Int)
 | 0, _, _, _, _, _, _, _, _, _, _, _ => none
 | k + 1, x3, x5, x7, x1000, x1001, x1002, x136000, x136001, x136002, x141000, x141001 => if x7 > 0 then ((spec_Oct.f k x5).bind fun t144 => (if 1 + t144.size ≤ 9223372036854775807 then ((spec_Oct.f k x7).bind fun t145 => (if ((⟨#[110]⟩ : ByteArray) ++ t144).size + t145.size ≤ 9223372036854775807 then (if x141001.length < 8796093022208 then (spec_l22Draw.l1 k x3 x5 (wrap64 (x7 - 1)) x1000 x1001 x1002 x136000 x136001 x136002 x141000 (x141001 ++ [((⟨#[110]⟩ : ByteArray) ++ t144) ++ t145])) else (none)) else (none))) else (none))) else (if (x136002.length : Int) > 0 then ((spec_l1Once.f x1000 x1001 x1002 2).bind fun bt149 => (if bt149.1 = true then ((spec_l1Below.f x1000 bt149.2.1 bt149.2.2 (x136002.length : Int)).bind fun bt152 => (if 0 ≤ bt152.1 then (if bt152.1 < (x136002.length : Int) then (if (((rd_T27 x136002 bt152.1).f2).length : Int) > 0 then ((spec_l1Once.f x1000 bt152.2.1 bt152.2.2 3).bind fun bt156 => (if bt156.1 = true then ((spec_l1Below.f x1000 bt156.2.1 bt156.2.2 (((rd_T27 x136002 bt152.1).f2).length : Int)).bind fun bt159 => (if 0 ≤ bt159.1 then (if bt159.1 < (((rd_T27 x136002 bt152.1).f2).length : Int) then (if ((rd_T27 ((rd_T27 x136002 bt152.1).f2) bt159.1).f2).length < 2199023255552 then (spec_l22Draw.l0 k x3 (wrap64 (x5 + 1)) x1000 bt159.2.1 bt159.2.2 x136000 x136001 (x136002.set bt152.1.toNat ⟨(rd_T27 x136002 bt152.1).f0, (rd_T27 x136002 bt152.1).f1, ((rd_T27 x136002 bt152.1).f2).set bt159.1.toNat ⟨(rd_T27 ((rd_T27 x136002 bt152.1).f2) bt159.1).f0, (rd_T27 ((rd_T27 x136002 bt152.1).f2) bt159.1).f1, (rd_T27 ((rd_T27 x136002 bt152.1).f2) bt159.1).f2 ++ [(⟨x141000, x141001, ([] : List (S27))⟩ : S27)]⟩⟩)) else (none)) else (none)) else (none))) else (if ((rd_T27 x136002 bt152.1).f2).length < 2199023255552 then (spec_l22Draw.l0 k x3 (wrap64 (x5 + 1)) x1000 bt156.2.1 bt156.2.2 x136000 x136001 (x136002.set bt152.1.toNat ⟨(rd_T27 x136002 bt152.1).f0, (rd_T27 x136002 bt152.1).f1, (rd_T27 x136002 bt152.1).f2 ++ [(⟨x141000, x141001, ([] : List (S27))⟩ : S27)]⟩)) else (none)))) else (if ((rd_T27 x136002 bt152.1).f2).length < 2199023255552 then (spec_l22Draw.l0 k x3 (wrap64 (x5 + 1)) x1000 bt152.2.1 bt152.2.2 x136000 x136001 (x136002.set bt152.1.toNat ⟨(rd_T27 x136002 bt152.1).f0, (rd_T27 x136002 bt152.1).f1, (rd_T27 x136002 bt152.1).f2 ++ [(⟨x141000, x141001, ([] : List (S27))⟩ : S27)]⟩)) else (none))) else (none)) else (none))) else (if x136002.length < 2199023255552 then (spec_l22Draw.l0 k x3 (wrap64 (x5 + 1)) x1000 bt149.2.1 bt149.2.2 x136000 x136001 (x136002 ++ [(⟨x141000, x141001, ([] : List (S27))⟩ : S27)])) else (none)))) else (if x136002.length < 2199023255552 then (spec_l22Draw.l0 k x3 (wrap64 (x5 + 1)) x1000 x1001 x1002 x136000 x136001 (x136002 ++ [(⟨x141000, x141001, ([] : List (S27))⟩ : S27)])) else (none)))
end
def spec_l22Draw.f (k : Nat) (s0_0 : List Int) (s0_1 : Int) (s0_2 : Int) : Option (ByteArray × List ByteArray × (List (S27)) × Int × Int) := (some (([(⟨#[114, 111, 111, 116]⟩ : ByteArray), (⟨#[97]⟩ : ByteArray), (⟨#[98]⟩ : ByteArray), (⟨#[100]⟩ : ByteArray), (⟨#[101]⟩ : ByteArray), (⟨#[102]⟩ : ByteArray), (⟨#[120]⟩ : ByteArray)] : List ByteArray) : List ByteArray)).bind fun y128 => (if 0 < (y128.length : Int) then (spec_l22Draw.l0 k y128 1 s0_0 s0_1 s0_2 (rdOf ByteArray.empty y128 0) (([(⟨#[109, 48]⟩ : ByteArray)] : List ByteArray)) ([] : List (S27))) else (none))
theorem spec_l22Draw.mono_l : ∀ k, (∀ y0 y1 y2 y3 y4 y5 y6 y7, LeO (spec_l22Draw.l0 k y0 y1 y2 y3 y4 y5 y6 y7) (spec_l22Draw.l0 (k + 1) y0 y1 y2 y3 y4 y5 y6 y7)) ∧ (∀ y0 y1 y2 y3 y4 y5 y6 y7 y8 y9 y10, LeO (spec_l22Draw.l1 k y0 y1 y2 y3 y4 y5 y6 y7 y8 y9 y10) (spec_l22Draw.l1 (k + 1) y0 y1 y2 y3 y4 y5 y6 y7 y8 y9 y10))
 | 0 => ⟨fun _ _ _ _ _ _ _ _ r h => by simp [spec_l22Draw.l0] at h, fun _ _ _ _ _ _ _ _ _ _ _ r h => by simp [spec_l22Draw.l1] at h⟩
 | k + 1 => by
  obtain ⟨ih0, ih1⟩ := spec_l22Draw.mono_l k
  refine ⟨?_, ?_⟩
  ·intro y0 y1 y2 y3 y4 y5 y6 y7
   unfold spec_l22Draw.l0
   repeat' first
   | (with_reducible exact ih0 _ _ _ _ _ _ _ _)
   | (with_reducible exact ih1 _ _ _ _ _ _ _ _ _ _ _)
   | (with_reducible exact spec_Oct.mono _ _)
   | (with_reducible exact LeO.refl _)
   | (with_reducible exact LeO.none _)
   | (with_reducible refine LeO.ite ?_ ?_)
   | (with_reducible refine LeO.bind ?_ (fun _ => ?_))
   | exact ih0 _ _ _ _ _ _ _ _
   | exact ih1 _ _ _ _ _ _ _ _ _ _ _
   | exact spec_Oct.mono _ _
   | exact LeO.none _
   | refine LeO.ite ?_ ?_
   | refine LeO.bind ?_ (fun _ => ?_)
  ·intro y0 y1 y2 y3 y4 y5 y6 y7 y8 y9 y10
   unfold spec_l22Draw.l1
   repeat' first
   | (with_reducible exact ih0 _ _ _ _ _ _ _ _)
   | (with_reducible exact ih1 _ _ _ _ _ _ _ _ _ _ _)
   | (with_reducible exact spec_Oct.mono _ _)
   | (with_reducible exact LeO.refl _)
   | (with_reducible exact LeO.none _)
   | (with_reducible refine LeO.ite ?_ ?_)
   | (with_reducible refine LeO.bind ?_ (fun _ => ?_))
   | exact ih0 _ _ _ _ _ _ _ _
   | exact ih1 _ _ _ _ _ _ _ _ _ _ _
   | exact spec_Oct.mono _ _
   | exact LeO.none _
   | refine LeO.ite ?_ ?_
   | refine LeO.bind ?_ (fun _ => ?_)
theorem spec_l22Draw.mono : ∀ a0 a1 a2 k, LeO (spec_l22Draw.f k a0 a1 a2) (spec_l22Draw.f (k + 1) a0 a1 a2) := by
 intro a0 a1 a2 k
 obtain ⟨ih0, ih1⟩ := spec_l22Draw.mono_l k
 unfold spec_l22Draw.f
 repeat' first
  | (with_reducible exact ih0 _ _ _ _ _ _ _ _)
  | (with_reducible exact ih1 _ _ _ _ _ _ _ _ _ _ _)
  | (with_reducible exact spec_Oct.mono _ _)
  | (with_reducible exact LeO.refl _)
  | (with_reducible exact LeO.none _)
  | (with_reducible refine LeO.ite ?_ ?_)
  | (with_reducible refine LeO.bind ?_ (fun _ => ?_))
  | exact ih0 _ _ _ _ _ _ _ _
  | exact ih1 _ _ _ _ _ _ _ _ _ _ _
  | exact spec_Oct.mono _ _
  | exact LeO.none _
  | refine LeO.ite ?_ ?_
  | refine LeO.bind ?_ (fun _ => ?_)
def spec_l22Draw.T10 : Bool × List (List Nat × List Nat) := (true, [([], []), ([0], [0]), ([], []), ([2], [2]), ([3], [3]), ([], []), ([5, 3], [5]), ([4, 6], [4, 6]), ([7], [7]), ([1, 8, 6], [1, 8]), ([0, 1, 2, 3, 4, 5, 6, 7, 8, 9], []), ([10, 9, 9, 0, 1, 2, 3, 4, 5, 6, 7, 8, 9], [9, 10])])
def spec_l22Draw.B10 : List Nat := [0, 1, 0, 4, 12, 0, 44, 124, 252, 511, 1023, 2047]
theorem spec_l22Draw.tab10 : rtab .any (opsOf Try.f26 10) = spec_l22Draw.T10 := by kernel_rfl
theorem spec_l22Draw.bits10 : waitsOk spec_l22Draw.T10.2 spec_l22Draw.B10 = true := by kernel_rfl
def spec_l22Draw.T12 : Bool × List (List Nat × List Nat) := (true, [([], []), ([0], [0]), ([], []), ([], []), ([3], [3]), ([4], [4]), ([2, 5], [2, 5]), ([1, 6], [1, 6]), ([7, 6, 0, 1, 2, 3, 4, 5, 6, 7], [7])])
def spec_l22Draw.B12 : List Nat := [0, 1, 0, 0, 8, 24, 60, 127, 255]
theorem spec_l22Draw.tab12 : rtab .any (opsOf Try.f26 12) = spec_l22Draw.T12 := by kernel_rfl
theorem spec_l22Draw.bits12 : waitsOk spec_l22Draw.T12.2 spec_l22Draw.B12 = true := by kernel_rfl
def spec_l22Draw.T14 : Bool × List (List Nat × List Nat) := (true, [([], []), ([0], [0]), ([1], [1]), ([2], [2]), ([], []), ([], []), ([5], [5]), ([6], [6]), ([7], [7]), ([8], [8]), ([4, 9], [4, 9]), ([3, 10], [3, 10]), ([11, 10, 0, 1, 2, 3, 4, 5, 6, 7, 8, 9, 10, 11], [0, 5, 11])])
def spec_l22Draw.B14 : List Nat := [0, 1, 3, 7, 0, 0, 32, 96, 224, 480, 1008, 2047, 4095]
theorem spec_l22Draw.tab14 : rtab .any (opsOf Try.f26 14) = spec_l22Draw.T14 := by kernel_rfl
theorem spec_l22Draw.bits14 : waitsOk spec_l22Draw.T14.2 spec_l22Draw.B14 = true := by kernel_rfl
set_option maxHeartbeats 8000000 in
set_option maxRecDepth 100000 in
theorem spec_l22Draw.calls0 (k : Nat) (g : Nat) (s0_0 : List Int) (s0_1 : Int) (s0_2 : Int) (r1 : ByteArray) (r2 : List ByteArray) (r3 : List (S27)) (r4 : Int) (r5 : Int) (w0 w : World) (hI : IsS63 w0 w g s0_0 s0_1 s0_2) (hB : Below w0.heap.size w0 w) (h : spec_l22Draw.f k s0_0 s0_1 s0_2 = some (r1, r2, r3, r4, r5)) :
 Calls Try.prog 26 #[.pointer (some ⟨g, 0, none⟩)] w fun e w' => ∃ v1_ v2_ : Value, e = .returned (.agg #[.string r1, v1_, v2_]) ∧ Kd.R Kd.string 9 w' w.heap.size (fun _ => True) v1_ r2 ∧ Kd.S k27 27 w' w.heap.size (fun k_ => some k_ ≠ (v1_ : Value).ownBlock) v2_ r3 ∧ IsS63 w0 w' g s0_0 r4 r5 ∧ Below w0.heap.size w0 w' ∧ KeepBut w w' g none := by
 have hu27 := Try.underlying27
 have HI0 := Aside0.mk hI
 have HK := Aside0.mk (KeepBut.refl w g none)
 have HL := Aside0.mk hB.size
 clear hI
 have HW0 := Aside0.mk hB.size
 have HB := Aside0.mk hB
 clear hB
 have H : ((some (([(⟨#[114, 111, 111, 116]⟩ : ByteArray), (⟨#[97]⟩ : ByteArray), (⟨#[98]⟩ : ByteArray), (⟨#[100]⟩ : ByteArray), (⟨#[101]⟩ : ByteArray), (⟨#[102]⟩ : ByteArray), (⟨#[120]⟩ : ByteArray)] : List ByteArray) : List ByteArray)).bind fun y128 => (if 0 < (y128.length : Int) then (spec_l22Draw.l0 k y128 1 s0_0 s0_1 s0_2 (rdOf ByteArray.empty y128 0) (([(⟨#[109, 48]⟩ : ByteArray)] : List ByteArray)) ([] : List (S27))) else (none))) = some (r1, r2, r3, r4, r5) := h
 clear h
 obtain ⟨y128, hy128⟩ : ∃ y_ : List ByteArray, y_ = (([(⟨#[114, 111, 111, 116]⟩ : ByteArray), (⟨#[97]⟩ : ByteArray), (⟨#[98]⟩ : ByteArray), (⟨#[100]⟩ : ByteArray), (⟨#[101]⟩ : ByteArray), (⟨#[102]⟩ : ByteArray), (⟨#[120]⟩ : ByteArray)] : List ByteArray)) := ⟨_, rfl⟩
 replace H : (if 0 < (y128.length : Int) then (spec_l22Draw.l0 k y128 1 s0_0 s0_1 s0_2 (rdOf ByteArray.empty y128 0) (([(⟨#[109, 48]⟩ : ByteArray)] : List ByteArray)) ([] : List (S27))) else (none)) = some (r1, r2, r3, r4, r5) := by first | (rw [hy128]; with_reducible exact H) | (have H2_ := (Option.bind_some _ _).symm.trans H; rw [hy128]; with_reducible exact H2_) | (have H2_ := (Option.bind_some _ _).symm.trans H; with_reducible exact H2_) | with_reducible exact H | (rw [hy128]; exact H) | exact H
 have Ny128 := Aside0.mk hy128
 clear hy128
 by_cases c2 : 0 < (y128.length : Int)
 ·rw [if_pos c2] at H
  have c2b0 : decide (0 < (y128.length : Int)) = true := decide_eq_true c2
  have c2b1 : decide (0 < y128.length) = true := decide_eq_true (by omega)
  clear c2
  obtain ⟨y132, hy132⟩ : ∃ y_ : List ByteArray, y_ = (([(⟨#[109, 48]⟩ : ByteArray)] : List ByteArray)) := ⟨_, rfl⟩
  replace H : (spec_l22Draw.l0 k y128 1 s0_0 s0_1 s0_2 (rdOf ByteArray.empty y128 0) y132 ([] : List (S27))) = some (r1, r2, r3, r4, r5) := by first | (rw [hy132]; with_reducible exact H) | (have H2_ := (Option.bind_some _ _).symm.trans H; rw [hy132]; with_reducible exact H2_) | (have H2_ := (Option.bind_some _ _).symm.trans H; with_reducible exact H2_) | with_reducible exact H | (rw [hy132]; exact H) | exact H
  have Ny132 := Aside0.mk hy132
  clear hy132
  have H' := Aside0.mk H
  clear H
  go_enter Try.func26, Try.ntmps26
  go_wp2_with (first | ((with_reducible refine gate_dst (N := 2) rfl ?_); refine box_event ?hg (N := 2) ?hd (cs := #[.string (⟨#[]⟩ : ByteArray), .slice none 0 0, .slice none 0 0]) (t := 27) ?hr ?_; (case hd => rfl); (case hg => rfl); (case hr => first | (go_simp; done) | (go_simp; rfl)); intro gb127 hg w3 hbox hb; have n0_ := Aside0.mk (IsS63.below (z_10 HI0.out) hb); have n1_ := Aside0.mk (KeepBut.trans (z_12 HK.out) (KeepBut.of_below hb g none) (.inl rfl)); have n2_ := Aside0.mk (below_step (z_11 HB.out HI0.out) hb); have n3_ := Aside0.mk (hbox); have n4_ := Aside0.mk ((z_13 HK.out : w.heap.size ≤ gb127)); have n5_ := Aside0.mk ((Nat.le_trans HW0.out (z_13 HK.out : w.heap.size ≤ gb127) : w0.heap.size ≤ gb127)); have n6_ := Aside0.mk ((by rw [hg]; exact Nat.ne_of_lt (IsS63.lt (show IsS63 w0 _ g s0_0 s0_1 s0_2 from by repeat (first | (with_reducible first | exact HI0.out | apply IsS63.alloc | apply IsS63.drewN | apply IsS63.drew | apply IsS63.set_1 | apply IsS63.set_2) | exact HI0.out))) : g ≠ gb127)); have n7_ := Aside0.mk ((by rw [hg]; exact Nat.ne_of_gt (IsS63.lt (show IsS63 w0 _ g s0_0 s0_1 s0_2 from by repeat (first | (with_reducible first | exact HI0.out | apply IsS63.alloc | apply IsS63.drewN | apply IsS63.drew | apply IsS63.set_1 | apply IsS63.set_2) | exact HI0.out))) : gb127 ≠ g)); clear HI0; clear HK; clear HB; have HI0 := n0_; have HK := n1_; have HB := n2_; have BK127 := n3_; have GW127 := n4_; have GE127 := n5_; have NB0_127 := n6_; have NB127_0 := n7_; clear n0_ n1_ n2_ n3_ n4_ n5_ n6_ n7_; clear hb hbox hg) | ((with_reducible refine gate_dst (N := 9) rfl ?_); refine Kd.R_lit Kd.string _ 9 ?hg (N := 9) ?hd (xs := ([(⟨#[114, 111, 111, 116]⟩ : ByteArray), (⟨#[97]⟩ : ByteArray), (⟨#[98]⟩ : ByteArray), (⟨#[100]⟩ : ByteArray), (⟨#[101]⟩ : ByteArray), (⟨#[102]⟩ : ByteArray), (⟨#[120]⟩ : ByteArray)] : List ByteArray)) (inner := [.string (⟨#[114, 111, 111, 116]⟩ : ByteArray), .string (⟨#[97]⟩ : ByteArray), .string (⟨#[98]⟩ : ByteArray), .string (⟨#[100]⟩ : ByteArray), .string (⟨#[101]⟩ : ByteArray), .string (⟨#[102]⟩ : ByteArray), .string (⟨#[120]⟩ : ByteArray)]) (ok := fun _ => True) (okp := fun _ => True) ?hr ?hp (fun _ hk => hk) trivial (Below.refl _ _) (Nat.le_refl _) (by simp) ?_; (case hd => rfl); (case hg => rfl); (case hr => first | (go_simp; done) | (go_simp; rfl)); (case hp => exact (Reps.one (show Kd.M Kd.string _ _ _ (⟨#[114, 111, 111, 116]⟩ : ByteArray) [.string (⟨#[114, 111, 111, 116]⟩ : ByteArray)] from rfl) (Reps.one (show Kd.M Kd.string _ _ _ (⟨#[97]⟩ : ByteArray) [.string (⟨#[97]⟩ : ByteArray)] from rfl) (Reps.one (show Kd.M Kd.string _ _ _ (⟨#[98]⟩ : ByteArray) [.string (⟨#[98]⟩ : ByteArray)] from rfl) (Reps.one (show Kd.M Kd.string _ _ _ (⟨#[100]⟩ : ByteArray) [.string (⟨#[100]⟩ : ByteArray)] from rfl) (Reps.one (show Kd.M Kd.string _ _ _ (⟨#[101]⟩ : ByteArray) [.string (⟨#[101]⟩ : ByteArray)] from rfl) (Reps.one (show Kd.M Kd.string _ _ _ (⟨#[102]⟩ : ByteArray) [.string (⟨#[102]⟩ : ByteArray)] from rfl) (Reps.one (show Kd.M Kd.string _ _ _ (⟨#[120]⟩ : ByteArray) [.string (⟨#[120]⟩ : ByteArray)] from rfl) (Reps.none _ _))))))))); intro v129 w4 ho5 hb hg_ hnew_; clear hg_ hnew_; (first | rw [← Ny128.out] at ho5 | (simp only [Int.reduceToNat] at ho5; rw [← Ny128.out] at ho5)); have n0_ := Aside0.mk (Kd.R_lower ho5 (keep_size (w := w) (g := g) (row := none) (z_14 HK.out GW127.out))); have n1_ := Aside0.mk (IsS63.below (z_15 HI0.out NB0_127.out) hb); have n2_ := Aside0.mk (blk_below (g := gb127) (o := .cells #[.string (⟨#[]⟩ : ByteArray), .slice none 0 0, .slice none 0 0] 27 (0, 0)) (z_7 BK127.out) hb); have n3_ := Aside0.mk (KeepBut.trans (z_14 HK.out GW127.out) (KeepBut.of_below hb g none) (.inl rfl)); have n4_ := Aside0.mk (below_step (z_16 HB.out HI0.out GE127.out) hb); clear HI0; clear BK127; clear HK; clear HB; have HO130 := n0_; have HI0 := n1_; have BK127 := n2_; have HK := n3_; have HB := n4_; clear n0_ n1_ n2_ n3_ n4_; clear hb ho5; obtain ⟨Ao6, co6, eo6⟩ := Kd.R_slice HO130.out; subst eo6; have p131 : 0 ≤ (0 : Int) := (by omega); have q131 : 0 < (y128.length : Int) := of_decide_eq_true z_5; obtain ⟨ad131, e131, hx131_0⟩ := Kd.at_string (Kd.R_reads' HO130.out).2.2 0 p131 q131; cases e131; have qi131 : (0 < y128.length) = True := eq_true (by omega); (try rw [show ((0 : Int)).toNat = 0 from rfl] at hx131_0); (try rw [Addr.add_zero'] at hx131_0); replace p131 := eq_true p131; replace q131 := eq_true q131) | ((with_reducible refine gate_dst (N := 13) rfl ?_); refine Kd.R_lit Kd.string _ 9 ?hg (N := 13) ?hd (xs := ([(⟨#[109, 48]⟩ : ByteArray)] : List ByteArray)) (inner := [.string (⟨#[109, 48]⟩ : ByteArray)]) (ok := fun _ => True) (okp := fun _ => True) ?hr ?hp (fun _ hk => hk) trivial (Below.refl _ _) (Nat.le_refl _) (by simp) ?_; (case hd => rfl); (case hg => rfl); (case hr => first | (go_simp; done) | (go_simp; rfl)); (case hp => exact (Reps.one (show Kd.M Kd.string _ _ _ (⟨#[109, 48]⟩ : ByteArray) [.string (⟨#[109, 48]⟩ : ByteArray)] from rfl) (Reps.none _ _))); intro v133 w7 ho8 hb hg_ hnew_; clear hg_ hnew_; (first | rw [← Ny132.out] at ho8 | (simp only [Int.reduceToNat] at ho8; rw [← Ny132.out] at ho8)); have n0_ := Aside0.mk (Kd.R_elder' (z_17 HO130.out) (Kd.R_base ho8) hb); have n1_ := Aside0.mk (Kd.R_lower (Kd.R_new' ho8 (Kd.R_lt (z_17 HO130.out))) (keep_size (w := w) (g := g) (row := none) (z_14 HK.out GW127.out))); have n2_ := Aside0.mk (IsS63.below (z_15 HI0.out NB0_127.out) hb); have n3_ := Aside0.mk (blk_below (g := gb127) (o := .cells #[.string (⟨#[]⟩ : ByteArray), .slice none 0 0, .slice none 0 0] 27 (0, 0)) (z_7 BK127.out) hb); have n4_ := Aside0.mk (KeepBut.trans (z_14 HK.out GW127.out) (KeepBut.of_below hb g none) (.inl rfl)); have n5_ := Aside0.mk (below_step (z_16 HB.out HI0.out GE127.out) hb); clear HO130; clear HI0; clear BK127; clear HK; clear HB; have HO130 := n0_; have HO134 := n1_; have HI0 := n2_; have BK127 := n3_; have HK := n4_; have HB := n5_; clear n0_ n1_ n2_ n3_ n4_ n5_; clear hb ho8; obtain ⟨Ao9, co9, eo9⟩ := Kd.R_slice HO134.out; subst eo9) | ((with_reducible refine gate_dst (N := 4) rfl ?_); refine box_event ?hg (N := 4) ?hd (cs := #[.string (⟨#[]⟩ : ByteArray), .slice none 0 0, .slice none 0 0]) (t := 27) ?hr ?_; (case hd => rfl); (case hg => rfl); (case hr => first | (go_simp; done) | (go_simp; rfl)); intro gb135 hg w10 hbox hb; have n0_ := Aside0.mk (Kd.R_below (z_17 HO130.out) hb); have n1_ := Aside0.mk (Kd.R_below (z_17 HO134.out) hb); have n2_ := Aside0.mk (IsS63.below (z_15 HI0.out NB0_127.out) hb); have n3_ := Aside0.mk (blk_below (g := gb127) (o := .cells #[.string (⟨#[]⟩ : ByteArray), .slice none 0 0, .slice none 0 0] 27 (0, 0)) (z_7 BK127.out) hb); have n4_ := Aside0.mk (KeepBut.trans (z_14 HK.out GW127.out) (KeepBut.of_below hb g none) (.inl rfl)); have n5_ := Aside0.mk (below_step (z_16 HB.out HI0.out GE127.out) hb); have n6_ := Aside0.mk (hbox); have n7_ := Aside0.mk ((z_18 HK.out GW127.out : w.heap.size ≤ gb135)); have n8_ := Aside0.mk ((Nat.le_trans HW0.out (z_18 HK.out GW127.out : w.heap.size ≤ gb135) : w0.heap.size ≤ gb135)); have n9_ := Aside0.mk ((z_19 BK127.out : gb127 ≠ gb135)); have n10_ := Aside0.mk ((z_20 BK127.out : gb135 ≠ gb127)); have n11_ := Aside0.mk ((by rw [hg]; exact Nat.ne_of_lt (IsS63.lt (show IsS63 w0 _ g s0_0 s0_1 s0_2 from by repeat (first | (with_reducible first | exact HI0.out | apply IsS63.alloc | apply IsS63.drewN | apply IsS63.drew | apply IsS63.set_1 | apply IsS63.set_2 | refine IsS63.far ?_ NB0_127.out _) | exact HI0.out))) : g ≠ gb135)); have n12_ := Aside0.mk ((by rw [hg]; exact Nat.ne_of_gt (IsS63.lt (show IsS63 w0 _ g s0_0 s0_1 s0_2 from by repeat (first | (with_reducible first | exact HI0.out | apply IsS63.alloc | apply IsS63.drewN | apply IsS63.drew | apply IsS63.set_1 | apply IsS63.set_2 | refine IsS63.far ?_ NB0_127.out _) | exact HI0.out))) : gb135 ≠ g)); clear HO130; clear HO134; clear HI0; clear BK127; clear HK; clear HB; have HO130 := n0_; have HO134 := n1_; have HI0 := n2_; have BK127 := n3_; have HK := n4_; have HB := n5_; have BK135 := n6_; have GW135 := n7_; have GE135 := n8_; have NB127_135 := n9_; have NB135_127 := n10_; have NB0_135 := n11_; have NB135_0 := n12_; clear n0_ n1_ n2_ n3_ n4_ n5_ n6_ n7_ n8_ n9_ n10_ n11_ n12_; clear hb hbox hg; have hnb11 := NB135_127.out; have hnc11 := NB127_135.out; have hnb12 := NB135_0.out; have hnc12 := NB0_135.out; have hcz13_0 : w10.cell? ⟨gb135, 0, none⟩ = some (.string (⟨#[]⟩ : ByteArray)) := (blk_cell BK135.out 0).trans rfl; have hcz13_1 : w10.cell? ⟨gb135, 1, none⟩ = some (.slice none 0 0) := (blk_cell BK135.out 1).trans rfl; have hcz13_2 : w10.cell? ⟨gb135, 2, none⟩ = some (.slice none 0 0) := (blk_cell BK135.out 2).trans rfl; have hfz13_0 := blk_frozen BK135.out 0; have hfz13_1 := blk_frozen BK135.out 1; have hfz13_2 := blk_frozen BK135.out 2))
  go_loopg [5] k (fun kq v5 w' => ∃ (x5_1 : Int) (x1001_1 : Int) (x1002_1 : Int) (x136002_1 : List (S27)) (u136002 : Value), v5 = .int .i64 x5_1 ∧ Aside0 (spec_l22Draw.l0 kq y128 x5_1 s0_0 x1001_1 x1002_1 (rdOf ByteArray.empty y128 0) y132 x136002_1 = some (r1, r2, r3, r4, r5)) ∧ Aside0 (kq ≤ k) ∧ Aside0 (Kd.R Kd.string 9 w' w.heap.size (fun k_ => some k_ ≠ ((.slice Ao9 y132.length co9) : Value).ownBlock) (.slice (some ad131) y128.length co6) y128) ∧ Aside0 (Kd.R Kd.string 9 w' w.heap.size (fun k_ => some k_ ≠ ((.slice (some ad131) y128.length co6) : Value).ownBlock) (.slice Ao9 y132.length co9) y132) ∧ Aside0 (Kd.S k27 27 w' w.heap.size (fun k_ => some k_ ≠ ((.slice (some ad131) y128.length co6) : Value).ownBlock ∧ some k_ ≠ ((.slice Ao9 y132.length co9) : Value).ownBlock ∧ k_ ≠ gb127 ∧ k_ ≠ gb135) u136002 x136002_1) ∧ Aside0 (w'.heap[gb127]? = some (.cells #[.string (⟨#[]⟩ : ByteArray), (.slice none 0 0), (.slice none 0 0)] 27 (0, 0))) ∧ Aside0 (w'.heap[gb135]? = some (.cells #[.string (rdOf ByteArray.empty y128 0), (.slice Ao9 y132.length co9), u136002] 27 (0, 0))) ∧ Aside0 (IsS63 w0 w' g s0_0 x1001_1 x1002_1) ∧ Aside0 (KeepBut w w' g none) ∧ Aside0 (Below w0.heap.size w0 w'))
  case atStart => exact ⟨(1), (s0_1), (s0_2), (([] : List (S27))), (.slice none 0 0), z_3, H', ⟨Nat.le_refl _⟩, ⟨z_21 HO130.out BK135.out⟩, ⟨z_21 HO134.out BK135.out⟩, ⟨by first | exact Kd.S_nil _ _ _ _ _ | exact Kd.N_nil _ _ _ _ _ | exact Kd.V_nil _ _ _ _ _ | exact Kd.Q_nil _ _ _ _ _ | exact Kd.R_nil _ _ _ _ _⟩, ⟨z_22 NB127_135.out BK127.out⟩, ⟨z_23 BK135.out⟩, ⟨z_24 HI0.out NB0_127.out NB0_135.out⟩, ⟨z_25 HK.out GW127.out GW135.out⟩, ⟨z_26 HB.out HI0.out GE127.out GE135.out⟩⟩
  case round =>
   clear H'
   try clear c1
   try clear p1
   try clear q1
   try clear hx1
   try clear qi1
   try clear c2
   try clear c2b0
   try clear c2b1
   try clear p2
   try clear c11
   try clear c12
   try clear p13
   try clear q13
   try clear hx13
   try clear qi13
   try clear hcz13_0
   try clear hcz13_1
   try clear hcz13_2
   try clear hfz13_0
   try clear hfz13_1
   try clear hfz13_2
   try clear hx131_0
   try clear p131
   try clear q131
   obtain ⟨x5_1, x1001_1, x1002_1, x136002_1, u136002, rfl, HA, HK1, HO_3, HO_136001, HO_136002, BK127, BK135, HI0, HK, HB⟩ := hrel
   cases gk with
   | zero => exact absurd HA.out (by simp [spec_l22Draw.l0])
   | succ k1 =>
    have H := HA.out
    clear HA
    simp only [spec_l22Draw.l0] at H
    replace H := Option.bind_eq_some_iff.mp H
    obtain ⟨⟨t136, t137, t138⟩, A140, H⟩ := H
    replace H : (if x5_1 < (wrap64 (2 + t136)) then (if 0 ≤ (Int.tmod x5_1 7) then (if (Int.tmod x5_1 7) < (y128.length : Int) then ((spec_l1Below.f s0_0 t137 t138 3).bind fun bt141 => (spec_l22Draw.l1 k1 y128 x5_1 bt141.1 s0_0 bt141.2.1 bt141.2.2 (rdOf ByteArray.empty y128 0) y132 x136002_1 (rdOf ByteArray.empty y128 (Int.tmod x5_1 7)) ([] : List ByteArray))) else (none)) else (none)) else (some ((rdOf ByteArray.empty y128 0), y132, x136002_1, t137, t138))) = some (r1, r2, r3, r4, r5) := H
    have A14 := Aside0.mk A140
    clear A140
    by_cases c15 : x5_1 < (wrap64 (2 + t136))
    ·rw [if_pos c15] at H
     have c15b0 : decide (x5_1 < (wrap64 (2 + t136))) = true := decide_eq_true c15
     clear c15
     obtain ⟨ji16, hji16⟩ : ∃ j_ : Int, (Int.tmod x5_1 7) = j_ := ⟨_, rfl⟩
     replace H : (if 0 ≤ (ji16) then (if (ji16) < (y128.length : Int) then ((spec_l1Below.f s0_0 t137 t138 3).bind fun bt141 => (spec_l22Draw.l1 k1 y128 x5_1 bt141.1 s0_0 bt141.2.1 bt141.2.2 (rdOf ByteArray.empty y128 0) y132 x136002_1 (rdOf ByteArray.empty y128 (ji16)) ([] : List ByteArray))) else (none)) else (none)) = some (r1, r2, r3, r4, r5) := by first | (rw [hji16] at H; exact H) | (simp only [hji16] at H ⊢; exact H)
     (try rw [hji16] at A14)
     by_cases c17 : 0 ≤ (ji16)
     ·rw [if_pos c17] at H
      have c17b0 : decide (0 ≤ (ji16)) = true := decide_eq_true c17
      clear c17
      by_cases c18 : (ji16) < (y128.length : Int)
      ·rw [if_pos c18] at H
       have c18b0 : decide ((ji16) < (y128.length : Int)) = true := decide_eq_true c18
       clear c18
       replace H := Option.bind_eq_some_iff.mp H
       obtain ⟨⟨t141, t142, t143⟩, A190, H⟩ := H
       replace H : (spec_l22Draw.l1 k1 y128 x5_1 t141 s0_0 t142 t143 (rdOf ByteArray.empty y128 0) y132 x136002_1 (rdOf ByteArray.empty y128 (ji16)) ([] : List ByteArray)) = some (r1, r2, r3, r4, r5) := H
       have A19 := Aside0.mk A190
       clear A190
       have H' := Aside0.mk H
       clear H
       go_wp2_with (first | ((with_reducible refine gate_callee (f := 47) rfl ?_); refine gl_ 17 Try.func47 #[.pointer (some ⟨g, 0, none⟩), .int .i64 6] ?_; (with_reducible refine (spec_l1Below.calls g s0_0 x1001_1 x1002_1 6 t136 t137 t138 w0 _ ?side1 ?side2 A14.out).mono ?_); (case side1 => exact z_24 HI0.out NB0_127.out NB0_135.out); (case side2 => exact z_26 HB.out HI0.out GE127.out GE135.out); rintro e w20 ⟨rfl, hi, hb, hk⟩; (try clear A14); (try clear A14); refine ⟨_, rfl, ?_⟩; have n0_ := Aside0.mk (Kd.R_mono (Kd.R_keep (IsS63.apart (show IsS63 w0 _ g s0_0 x1001_1 x1002_1 from by repeat (first | (with_reducible first | exact HI0.out | apply IsS63.alloc | apply IsS63.drewN | apply IsS63.drew | apply IsS63.set_1 | apply IsS63.set_2 | refine IsS63.far ?_ NB0_127.out _ | refine IsS63.far ?_ NB0_135.out _) | exact HI0.out)) (z_17 HO_3.out) (by decide)) hk (fun _ h => h.2)) (fun _ h => h.1)); have n1_ := Aside0.mk (Kd.R_mono (Kd.R_keep (IsS63.apart (show IsS63 w0 _ g s0_0 x1001_1 x1002_1 from by repeat (first | (with_reducible first | exact HI0.out | apply IsS63.alloc | apply IsS63.drewN | apply IsS63.drew | apply IsS63.set_1 | apply IsS63.set_2 | refine IsS63.far ?_ NB0_127.out _ | refine IsS63.far ?_ NB0_135.out _) | exact HI0.out)) (z_17 HO_136001.out) (by decide)) hk (fun _ h => h.2)) (fun _ h => h.1)); have n2_ := Aside0.mk (Kd.S_mono (Kd.S_keep (IsS63.apartS (show IsS63 w0 _ g s0_0 x1001_1 x1002_1 from by repeat (first | (with_reducible first | exact HI0.out | apply IsS63.alloc | apply IsS63.drewN | apply IsS63.drew | apply IsS63.set_1 | apply IsS63.set_2 | refine IsS63.far ?_ NB0_127.out _ | refine IsS63.far ?_ NB0_135.out _) | exact HI0.out)) (z_27 HO_136002.out) (by decide)) hk (fun _ h => h.2)) (fun _ h => h.1)); have n3_ := Aside0.mk (KeepBut.blk hk (g' := gb127) (o := .cells #[.string (⟨#[]⟩ : ByteArray), .slice none 0 0, .slice none 0 0] 27 (0, 0)) (z_7 BK127.out) NB127_0.out (by simp)); have n4_ := Aside0.mk (KeepBut.blk hk (g' := gb135) (o := .cells #[.string (rdOf ByteArray.empty y128 0), .slice Ao9 y132.length co9, u136002] 27 (0, 0)) (z_7 BK135.out) NB135_0.out (by simp)); have n5_ := Aside0.mk (KeepBut.trans (z_25 HK.out GW127.out GW135.out) hk (.inl rfl)); have n6_ := Aside0.mk (hb); have n7_ := Aside0.mk (hi); clear HO_3; clear HO_136001; clear HO_136002; clear BK127; clear BK135; clear HK; clear HB; clear HI0; have HO_3 := n0_; have HO_136001 := n1_; have HO_136002 := n2_; have BK127 := n3_; have BK135 := n4_; have HK := n5_; have HB := n6_; have HI0 := n7_; clear n0_ n1_ n2_ n3_ n4_ n5_ n6_ n7_; (try clear hb); (try clear hb2); (try clear hk); (try clear hi); have p139 : 0 ≤ ((ji16) : Int) := of_decide_eq_true z_5; have q139 : (ji16) < (y128.length : Int) := of_decide_eq_true z_5; obtain ⟨ad139, e139, hx139_0⟩ := Kd.at_string (Kd.R_reads' HO_3.out).2.2 (ji16) p139 q139; obtain rfl : ad131 = ad139 := (by injection e139); replace p139 := eq_true p139; replace q139 := eq_true q139) | ((with_reducible refine gate_dst (N := 6) rfl ?_); refine box_event ?hg (N := 6) ?hd (cs := #[.string (⟨#[]⟩ : ByteArray), .slice none 0 0, .slice none 0 0]) (t := 27) ?hr ?_; (case hd => rfl); (case hg => rfl); (case hr => first | (go_simp; done) | (go_simp; rfl)); intro gb140 hg w21 hbox hb; have n0_ := Aside0.mk (Kd.R_below (z_17 HO_3.out) hb); have n1_ := Aside0.mk (Kd.R_below (z_17 HO_136001.out) hb); have n2_ := Aside0.mk (Kd.S_below (Kd.S_elderB (z_27 HO_136002.out) gb140 (Nat.le_of_eq hg.symm)) hb); have n3_ := Aside0.mk (blk_below (g := gb127) (o := .cells #[.string (⟨#[]⟩ : ByteArray), .slice none 0 0, .slice none 0 0] 27 (0, 0)) (z_7 BK127.out) hb); have n4_ := Aside0.mk (blk_below (g := gb135) (o := .cells #[.string (rdOf ByteArray.empty y128 0), .slice Ao9 y132.length co9, u136002] 27 (0, 0)) (z_7 BK135.out) hb); have n5_ := Aside0.mk (IsS63.below (z_24 HI0.out NB0_127.out NB0_135.out) hb); have n6_ := Aside0.mk (KeepBut.trans (z_25 HK.out GW127.out GW135.out) (KeepBut.of_below hb g none) (.inl rfl)); have n7_ := Aside0.mk (below_step (z_26 HB.out HI0.out GE127.out GE135.out) hb); have n8_ := Aside0.mk (hbox); have n9_ := Aside0.mk ((z_28 HK.out GW127.out GW135.out : w.heap.size ≤ gb140)); have n10_ := Aside0.mk ((Nat.le_trans HW0.out (z_28 HK.out GW127.out GW135.out : w.heap.size ≤ gb140) : w0.heap.size ≤ gb140)); have n11_ := Aside0.mk ((z_19 BK127.out : gb127 ≠ gb140)); have n12_ := Aside0.mk ((z_20 BK127.out : gb140 ≠ gb127)); have n13_ := Aside0.mk ((by rw [hg]; exact Nat.ne_of_lt (blk_lt (g := gb135) (o := .cells #[.string (rdOf ByteArray.empty y128 0), .slice Ao9 y132.length co9, u136002] 27 (0, 0)) (z_7 BK135.out)) : gb135 ≠ gb140)); have n14_ := Aside0.mk ((by rw [hg]; exact Nat.ne_of_gt (blk_lt (g := gb135) (o := .cells #[.string (rdOf ByteArray.empty y128 0), .slice Ao9 y132.length co9, u136002] 27 (0, 0)) (z_7 BK135.out)) : gb140 ≠ gb135)); have n15_ := Aside0.mk ((by rw [hg]; exact Nat.ne_of_lt (IsS63.lt (show IsS63 w0 _ g s0_0 t137 t138 from by repeat (first | (with_reducible first | exact HI0.out | apply IsS63.alloc | apply IsS63.drewN | apply IsS63.drew | apply IsS63.set_1 | apply IsS63.set_2 | refine IsS63.far ?_ NB0_127.out _ | refine IsS63.far ?_ NB0_135.out _) | exact HI0.out))) : g ≠ gb140)); have n16_ := Aside0.mk ((by rw [hg]; exact Nat.ne_of_gt (IsS63.lt (show IsS63 w0 _ g s0_0 t137 t138 from by repeat (first | (with_reducible first | exact HI0.out | apply IsS63.alloc | apply IsS63.drewN | apply IsS63.drew | apply IsS63.set_1 | apply IsS63.set_2 | refine IsS63.far ?_ NB0_127.out _ | refine IsS63.far ?_ NB0_135.out _) | exact HI0.out))) : gb140 ≠ g)); clear HO_3; clear HO_136001; clear HO_136002; clear BK127; clear BK135; clear HI0; clear HK; clear HB; have HO_3 := n0_; have HO_136001 := n1_; have HO_136002 := n2_; have BK127 := n3_; have BK135 := n4_; have HI0 := n5_; have HK := n6_; have HB := n7_; have BK140 := n8_; have GW140 := n9_; have GE140 := n10_; have NB127_140 := n11_; have NB140_127 := n12_; have NB135_140 := n13_; have NB140_135 := n14_; have NB0_140 := n15_; have NB140_0 := n16_; clear n0_ n1_ n2_ n3_ n4_ n5_ n6_ n7_ n8_ n9_ n10_ n11_ n12_ n13_ n14_ n15_ n16_; clear hb hbox hg; have hnb22 := NB140_127.out; have hnc22 := NB127_140.out; have hnb23 := NB140_135.out; have hnc23 := NB135_140.out; have hnb24 := NB140_0.out; have hnc24 := NB0_140.out; have hcz25_0 : w21.cell? ⟨gb140, 0, none⟩ = some (.string (⟨#[]⟩ : ByteArray)) := (blk_cell BK140.out 0).trans rfl; have hcz25_1 : w21.cell? ⟨gb140, 1, none⟩ = some (.slice none 0 0) := (blk_cell BK140.out 1).trans rfl; have hcz25_2 : w21.cell? ⟨gb140, 2, none⟩ = some (.slice none 0 0) := (blk_cell BK140.out 2).trans rfl; have hfz25_0 := blk_frozen BK140.out 0; have hfz25_1 := blk_frozen BK140.out 1; have hfz25_2 := blk_frozen BK140.out 2) | ((with_reducible refine gate_callee (f := 47) rfl ?_); refine gl_ 29 Try.func47 #[.pointer (some ⟨g, 0, none⟩), .int .i64 3] ?_; (with_reducible refine (spec_l1Below.calls g s0_0 t137 t138 3 t141 t142 t143 w0 _ ?side1 ?side2 A19.out).mono ?_); (case side1 => exact z_29 HI0.out NB0_127.out NB0_135.out NB0_140.out); (case side2 => exact z_30 HB.out HI0.out GE127.out GE135.out GE140.out); rintro e w26 ⟨rfl, hi, hb, hk⟩; (try clear A19); (try clear A19); refine ⟨_, rfl, ?_⟩; have n0_ := Aside0.mk (Kd.R_mono (Kd.R_keep (IsS63.apart (show IsS63 w0 _ g s0_0 t137 t138 from by repeat (first | (with_reducible first | exact HI0.out | apply IsS63.alloc | apply IsS63.drewN | apply IsS63.drew | apply IsS63.set_1 | apply IsS63.set_2 | refine IsS63.far ?_ NB0_127.out _ | refine IsS63.far ?_ NB0_135.out _ | refine IsS63.far ?_ NB0_140.out _) | exact HI0.out)) (z_31 HO_3.out BK140.out) (by decide)) hk (fun _ h => h.2)) (fun _ h => h.1)); have n1_ := Aside0.mk (Kd.R_mono (Kd.R_keep (IsS63.apart (show IsS63 w0 _ g s0_0 t137 t138 from by repeat (first | (with_reducible first | exact HI0.out | apply IsS63.alloc | apply IsS63.drewN | apply IsS63.drew | apply IsS63.set_1 | apply IsS63.set_2 | refine IsS63.far ?_ NB0_127.out _ | refine IsS63.far ?_ NB0_135.out _ | refine IsS63.far ?_ NB0_140.out _) | exact HI0.out)) (z_31 HO_136001.out BK140.out) (by decide)) hk (fun _ h => h.2)) (fun _ h => h.1)); have n2_ := Aside0.mk (Kd.S_mono (Kd.S_keep (IsS63.apartS (show IsS63 w0 _ g s0_0 t137 t138 from by repeat (first | (with_reducible first | exact HI0.out | apply IsS63.alloc | apply IsS63.drewN | apply IsS63.drew | apply IsS63.set_1 | apply IsS63.set_2 | refine IsS63.far ?_ NB0_127.out _ | refine IsS63.far ?_ NB0_135.out _ | refine IsS63.far ?_ NB0_140.out _) | exact HI0.out)) (by (with_reducible repeat (first | apply Kd.S_alloc | apply Kd.S_drewN | apply Kd.S_drew)); exact (Kd.S_mono (Kd.S_far (p := ⟨gb140, 2, none⟩) (Kd.S_far (p := ⟨gb140, 1, none⟩) (Kd.S_far (p := ⟨gb140, 0, none⟩) (Kd.S_mono HO_136002.out (fun k_ hk => (⟨hk, hk.2⟩ : _ ∧ k_ ≠ gb140))) (fun _ hk => hk.2) (.string (rdOf ByteArray.empty y128 (ji16)))) (fun _ hk => hk.2) (.slice none 0 0)) (fun _ hk => hk.2) (.slice none 0 0)) (fun _ h_ => h_.1))) (by decide)) hk (fun _ h => h.2)) (fun _ h => h.1)); have n3_ := Aside0.mk (KeepBut.blk hk (g' := gb127) (o := .cells #[.string (⟨#[]⟩ : ByteArray), .slice none 0 0, .slice none 0 0] 27 (0, 0)) (z_22 NB127_140.out BK127.out) NB127_0.out (by simp)); have n4_ := Aside0.mk (KeepBut.blk hk (g' := gb135) (o := .cells #[.string (rdOf ByteArray.empty y128 0), .slice Ao9 y132.length co9, u136002] 27 (0, 0)) (z_22 NB135_140.out BK135.out) NB135_0.out (by simp)); have n5_ := Aside0.mk (KeepBut.blk hk (g' := gb140) (o := .cells #[.string (rdOf ByteArray.empty y128 (ji16)), .slice none 0 0, .slice none 0 0] 27 (0, 0)) (by (with_reducible repeat (first | refine blk_drewN ?_ _ | refine blk_drew ?_ | refine blk_alloc ?_ _)); refine blk_put (cs := #[.string (rdOf ByteArray.empty y128 (ji16)), .slice none 0 0, .slice none 0 0]) ?_ 2 _ rfl; (with_reducible repeat (first | refine blk_drewN ?_ _ | refine blk_drew ?_ | refine blk_alloc ?_ _)); refine blk_put (cs := #[.string (rdOf ByteArray.empty y128 (ji16)), .slice none 0 0, .slice none 0 0]) ?_ 1 _ rfl; (with_reducible repeat (first | refine blk_drewN ?_ _ | refine blk_drew ?_ | refine blk_alloc ?_ _)); refine blk_put (cs := #[.string (⟨#[]⟩ : ByteArray), .slice none 0 0, .slice none 0 0]) ?_ 0 _ rfl; (with_reducible repeat (first | refine blk_drewN ?_ _ | refine blk_drew ?_ | refine blk_alloc ?_ _)); exact BK140.out) NB140_0.out (by simp)); have n6_ := Aside0.mk (KeepBut.trans (z_32 HK.out GW127.out GW135.out GW140.out) hk (.inl rfl)); have n7_ := Aside0.mk (hb); have n8_ := Aside0.mk (hi); clear HO_3; clear HO_136001; clear HO_136002; clear BK127; clear BK135; clear BK140; clear HK; clear HB; clear HI0; have HO_3 := n0_; have HO_136001 := n1_; have HO_136002 := n2_; have BK127 := n3_; have BK135 := n4_; have BK140 := n5_; have HK := n6_; have HB := n7_; have HI0 := n8_; clear n0_ n1_ n2_ n3_ n4_ n5_ n6_ n7_ n8_; (try clear hb); (try clear hb2); (try clear hk); (try clear hi)))
       go_loopg [7] k1 (fun kq v7 w' => ∃ (x7_2 : Int) (x141001_2 : List ByteArray) (u141001 : Value), v7 = .int .i64 x7_2 ∧ Aside0 (spec_l22Draw.l1 kq y128 x5_1 x7_2 s0_0 t142 t143 (rdOf ByteArray.empty y128 0) y132 x136002_1 (rdOf ByteArray.empty y128 (ji16)) x141001_2 = some (r1, r2, r3, r4, r5)) ∧ Aside0 (kq ≤ k1) ∧ Aside0 (Kd.R Kd.string 9 w' w.heap.size (fun k_ => some k_ ≠ ((.slice Ao9 y132.length co9) : Value).ownBlock ∧ some k_ ≠ (u141001 : Value).ownBlock) (.slice (some ad131) y128.length co6) y128) ∧ Aside0 (Kd.R Kd.string 9 w' w.heap.size (fun k_ => some k_ ≠ ((.slice (some ad131) y128.length co6) : Value).ownBlock ∧ some k_ ≠ (u141001 : Value).ownBlock) (.slice Ao9 y132.length co9) y132) ∧ Aside0 (Kd.S k27 27 w' w.heap.size (fun k_ => some k_ ≠ ((.slice (some ad131) y128.length co6) : Value).ownBlock ∧ some k_ ≠ ((.slice Ao9 y132.length co9) : Value).ownBlock ∧ some k_ ≠ (u141001 : Value).ownBlock ∧ k_ ≠ gb127 ∧ k_ ≠ gb135 ∧ k_ ≠ gb140) u136002 x136002_1) ∧ Aside0 (Kd.R Kd.string 9 w' w.heap.size (fun k_ => some k_ ≠ ((.slice (some ad131) y128.length co6) : Value).ownBlock ∧ some k_ ≠ ((.slice Ao9 y132.length co9) : Value).ownBlock) u141001 x141001_2) ∧ Aside0 (w'.heap[gb127]? = some (.cells #[.string (⟨#[]⟩ : ByteArray), (.slice none 0 0), (.slice none 0 0)] 27 (0, 0))) ∧ Aside0 (w'.heap[gb135]? = some (.cells #[.string (rdOf ByteArray.empty y128 0), (.slice Ao9 y132.length co9), u136002] 27 (0, 0))) ∧ Aside0 (w'.heap[gb140]? = some (.cells #[.string (rdOf ByteArray.empty y128 (ji16)), u141001, (.slice none 0 0)] 27 (0, 0))) ∧ Aside0 (IsS63 w0 w' g s0_0 t142 t143) ∧ Aside0 (KeepBut w w' g none) ∧ Aside0 (Below w0.heap.size w0 w'))
       case atStart => exact ⟨(t141), (([] : List ByteArray)), (.slice none 0 0), z_3, H', ⟨Nat.le_refl _⟩, ⟨z_33 HO_3.out⟩, ⟨z_33 HO_136001.out⟩, ⟨by (with_reducible repeat (first | apply Kd.S_alloc | apply Kd.S_drewN | apply Kd.S_drew)); exact Kd.S_mono HO_136002.out (fun _ hk => ⟨hk.1.1, ⟨hk.1.2.1, ⟨z_34, ⟨hk.1.2.2.1, ⟨hk.1.2.2.2, hk.2⟩⟩⟩⟩⟩)⟩, ⟨z_35⟩, ⟨z_7 BK127.out⟩, ⟨z_7 BK135.out⟩, ⟨z_7 BK140.out⟩, ⟨z_29 HI0.out NB0_127.out NB0_135.out NB0_140.out⟩, ⟨z_32 HK.out GW127.out GW135.out GW140.out⟩, ⟨z_30 HB.out HI0.out GE127.out GE135.out GE140.out⟩⟩
       case round =>
        clear H'
        try clear c1
        try clear p1
        try clear q1
        try clear hx1
        try clear qi1
        try clear c2
        try clear c2b0
        try clear c2b1
        try clear p2
        try clear c4
        try clear p6
        try clear c11
        try clear c12
        try clear p13
        try clear q13
        try clear hx13
        try clear qi13
        try clear c15
        try clear c15b0
        try clear c17
        try clear c17b0
        try clear c18
        try clear c18b0
        try clear c22
        try clear c23
        try clear c24
        try clear c26
        try clear hcz13_0
        try clear hcz13_1
        try clear hcz13_2
        try clear hcz25_0
        try clear hcz25_1
        try clear hcz25_2
        try clear hfz13_0
        try clear hfz13_1
        try clear hfz13_2
        try clear hfz25_0
        try clear hfz25_1
        try clear hfz25_2
        try clear hx131_0
        try clear hx139_0
        try clear p1
        try clear p13
        try clear p131
        try clear p139
        try clear p2
        try clear q1
        try clear q13
        try clear q131
        try clear q139
        obtain ⟨x7_2, x141001_2, u141001, rfl, HA, HK2, HO_3, HO_136001, HO_136002, HO_141001, BK127, BK135, BK140, HI0, HK, HB⟩ := hrel
        cases gk with
        | zero => exact absurd HA.out (by simp [spec_l22Draw.l1])
        | succ k2 =>
         have H := HA.out
         clear HA
         simp only [spec_l22Draw.l1] at H
         by_cases c27 : x7_2 > 0
         ·rw [if_pos c27] at H
          have c27b0 : decide (0 < x7_2) = true := decide_eq_true c27
          clear c27
          replace H := Option.bind_eq_some_iff.mp H
          obtain ⟨t144, A280, H⟩ := H
          replace H : (if 1 + t144.size ≤ 9223372036854775807 then ((spec_Oct.f k2 x7_2).bind fun t145 => (if ((⟨#[110]⟩ : ByteArray) ++ t144).size + t145.size ≤ 9223372036854775807 then (if x141001_2.length < 8796093022208 then (spec_l22Draw.l1 k2 y128 x5_1 (wrap64 (x7_2 - 1)) s0_0 t142 t143 (rdOf ByteArray.empty y128 0) y132 x136002_1 (rdOf ByteArray.empty y128 (ji16)) (x141001_2 ++ [((⟨#[110]⟩ : ByteArray) ++ t144) ++ t145])) else (none)) else (none))) else (none)) = some (r1, r2, r3, r4, r5) := H
          have A28 := Aside0.mk A280
          clear A280
          by_cases c29 : 1 + t144.size ≤ 9223372036854775807
          ·rw [if_pos c29] at H
           have c29b0 := eq_true c29
           have c29b1 : decide (1 + t144.size ≤ 9223372036854775807) = true := decide_eq_true c29
           try have c29b2 : (9223372036854775807 < 1 + t144.size) = False := eq_false (Nat.not_lt.2 c29)
           replace H := Option.bind_eq_some_iff.mp H
           obtain ⟨t145, A300, H⟩ := H
           replace H : (if ((⟨#[110]⟩ : ByteArray) ++ t144).size + t145.size ≤ 9223372036854775807 then (if x141001_2.length < 8796093022208 then (spec_l22Draw.l1 k2 y128 x5_1 (wrap64 (x7_2 - 1)) s0_0 t142 t143 (rdOf ByteArray.empty y128 0) y132 x136002_1 (rdOf ByteArray.empty y128 (ji16)) (x141001_2 ++ [((⟨#[110]⟩ : ByteArray) ++ t144) ++ t145])) else (none)) else (none)) = some (r1, r2, r3, r4, r5) := H
           have A30 := Aside0.mk A300
           clear A300
           by_cases c31 : ((⟨#[110]⟩ : ByteArray) ++ t144).size + t145.size ≤ 9223372036854775807
           ·rw [if_pos c31] at H
            have c31b0 := eq_true c31
            have c31b1 : decide (((⟨#[110]⟩ : ByteArray) ++ t144).size + t145.size ≤ 9223372036854775807) = true := decide_eq_true c31
            try have c31b2 : (9223372036854775807 < ((⟨#[110]⟩ : ByteArray) ++ t144).size + t145.size) = False := eq_false (Nat.not_lt.2 c31)
            have c31z0 : 1 + t144.size + t145.size ≤ 9223372036854775807 := by have z_ := c31; simp only [ByteArray.size_append] at z_; exact z_
            have c31z1 := eq_true c31z0
            have c31z2 : decide (1 + t144.size + t145.size ≤ 9223372036854775807) = true := decide_eq_true c31z0
            try have c31z3 : (9223372036854775807 < 1 + t144.size + t145.size) = False := eq_false (Nat.not_lt.2 c31z0)
            clear c31z0
            by_cases c32 : x141001_2.length < 8796093022208
            ·rw [if_pos c32] at H
             have LMc32 := Aside0.mk c32
             clear c32
             obtain ⟨y146, hy146⟩ : ∃ y_ : List ByteArray, y_ = (x141001_2 ++ [((⟨#[110]⟩ : ByteArray) ++ t144) ++ t145]) := ⟨_, rfl⟩
             replace H : (spec_l22Draw.l1 k2 y128 x5_1 (wrap64 (x7_2 - 1)) s0_0 t142 t143 (rdOf ByteArray.empty y128 0) y132 x136002_1 (rdOf ByteArray.empty y128 (ji16)) y146) = some (r1, r2, r3, r4, r5) := by first | (rw [hy146]; with_reducible exact H) | (have H2_ := (Option.bind_some _ _).symm.trans H; rw [hy146]; with_reducible exact H2_) | (have H2_ := (Option.bind_some _ _).symm.trans H; with_reducible exact H2_) | with_reducible exact H | (rw [hy146]; exact H) | exact H
             have Ny146 := Aside0.mk hy146
             clear hy146
             have H' := Aside0.mk H
             clear H
             try go_wp2
             have n0_ := Aside0.mk (Kd.R_drew HO_3.out)
             have n1_ := Aside0.mk (Kd.R_drew HO_136001.out)
             have n2_ := Aside0.mk (Kd.S_drew HO_136002.out)
             have n3_ := Aside0.mk (Kd.R_drew HO_141001.out)
             have n4_ := Aside0.mk (blk_drew BK127.out)
             have n5_ := Aside0.mk (blk_drew BK135.out)
             have n6_ := Aside0.mk (blk_drew BK140.out)
             have n7_ := Aside0.mk (IsS63.drew HI0.out)
             have n8_ := Aside0.mk (keep_drew HK.out)
             have n9_ := Aside0.mk (below_drew1 HB.out)
             clear HO_3
             clear HO_136001
             clear HO_136002
             clear HO_141001
             clear BK127
             clear BK135
             clear BK140
             clear HI0
             clear HK
             clear HB
             have HO_3 := n0_
             have HO_136001 := n1_
             have HO_136002 := n2_
             have HO_141001 := n3_
             have BK127 := n4_
             have BK135 := n5_
             have BK140 := n6_
             have HI0 := n7_
             have HK := n8_
             have HB := n9_
             clear n0_ n1_ n2_ n3_ n4_ n5_ n6_ n7_ n8_ n9_
             refine st_ 12 (fun w' => w'.cell? ⟨gb140, 0, none⟩ = some (.string (rdOf ByteArray.empty y128 (ji16))) ∧ w'.cell? ⟨gb140, 1, none⟩ = some (u141001) ∧ w'.cell? ⟨gb140, 2, none⟩ = some (.slice none 0 0)) [11] ⟨(blk_cell BK140.out 0).trans rfl, (blk_cell BK140.out 1).trans rfl, (blk_cell BK140.out 2).trans rfl⟩ (fun hHeld => ?_); refine with_tabW spec_l22Draw.tab10 spec_l22Draw.bits10 (fun HT_ HW_ => ?_)
             generalize wr.drew = w33 at HO_3 HO_136001 HO_136002 HO_141001 BK127 BK135 BK140 HI0 HK HB hHeld ⊢
             refine go_ ?_ [0, 2, 5, 1001] ?_
             refine on_ 3 37 (fun K hK => ?_)
             refine gs_ Try.func48 #[.int .i64 x5_1] ?_
             with_reducible refine (spec_Oct.calls k2 x5_1 t144 _ A28.out).mono ?_
             rintro e w34 ⟨rfl, hb⟩
             refine ⟨_, rfl, ?_⟩
             have n0_ := Aside0.mk (Kd.R_below (z_17 HO_3.out) hb)
             have n1_ := Aside0.mk (Kd.R_below (z_17 HO_136001.out) hb)
             have n2_ := Aside0.mk (Kd.S_below (z_27 HO_136002.out) hb)
             have n3_ := Aside0.mk (Kd.R_below (z_17 HO_141001.out) hb)
             have n4_ := Aside0.mk (blk_below (g := gb127) (o := .cells #[.string (⟨#[]⟩ : ByteArray), .slice none 0 0, .slice none 0 0] 27 (0, 0)) (z_7 BK127.out) hb)
             have n5_ := Aside0.mk (blk_below (g := gb135) (o := .cells #[.string (rdOf ByteArray.empty y128 0), .slice Ao9 y132.length co9, u136002] 27 (0, 0)) (z_7 BK135.out) hb)
             have n6_ := Aside0.mk (blk_below (g := gb140) (o := .cells #[.string (rdOf ByteArray.empty y128 (ji16)), u141001, .slice none 0 0] 27 (0, 0)) (z_7 BK140.out) hb)
             have n7_ := Aside0.mk (IsS63.below (z_29 HI0.out NB0_127.out NB0_135.out NB0_140.out) hb)
             have n8_ := Aside0.mk (KeepBut.trans (z_32 HK.out GW127.out GW135.out GW140.out) (KeepBut.of_below hb g none) (.inl rfl))
             have n9_ := Aside0.mk (below_step (z_30 HB.out HI0.out GE127.out GE135.out GE140.out) hb)
             clear HO_3
             clear HO_136001
             clear HO_136002
             clear HO_141001
             clear BK127
             clear BK135
             clear BK140
             clear HI0
             clear HK
             clear HB
             have HO_3 := n0_
             have HO_136001 := n1_
             have HO_136002 := n2_
             have HO_141001 := n3_
             have BK127 := n4_
             have BK135 := n5_
             have BK140 := n6_
             have HI0 := n7_
             have HK := n8_
             have HB := n9_
             clear n0_ n1_ n2_ n3_ n4_ n5_ n6_ n7_ n8_ n9_
             (try clear hb)
             (try clear hb2)
             (try clear hk)
             (try clear hi)
             refine hK.out _ _ ⟨(blk_cell BK140.out 0).trans rfl, (blk_cell BK140.out 1).trans rfl, (blk_cell BK140.out 2).trans rfl⟩ (fun hHeld => ?_)
             clear hK K
             refine nm_ ?_
             refine go_ ?_ [4] ?_
             refine on_ 6 40 (fun K hK => ?_)
             refine gs_ Try.func48 #[.int .i64 x7_2] ?_
             with_reducible refine (spec_Oct.calls k2 x7_2 t145 _ A30.out).mono ?_
             rintro e w35 ⟨rfl, hb⟩
             refine ⟨_, rfl, ?_⟩
             have n0_ := Aside0.mk (Kd.R_below (z_17 HO_3.out) hb)
             have n1_ := Aside0.mk (Kd.R_below (z_17 HO_136001.out) hb)
             have n2_ := Aside0.mk (Kd.S_below (z_27 HO_136002.out) hb)
             have n3_ := Aside0.mk (Kd.R_below (z_17 HO_141001.out) hb)
             have n4_ := Aside0.mk (blk_below (g := gb127) (o := .cells #[.string (⟨#[]⟩ : ByteArray), .slice none 0 0, .slice none 0 0] 27 (0, 0)) (z_7 BK127.out) hb)
             have n5_ := Aside0.mk (blk_below (g := gb135) (o := .cells #[.string (rdOf ByteArray.empty y128 0), .slice Ao9 y132.length co9, u136002] 27 (0, 0)) (z_7 BK135.out) hb)
             have n6_ := Aside0.mk (blk_below (g := gb140) (o := .cells #[.string (rdOf ByteArray.empty y128 (ji16)), u141001, .slice none 0 0] 27 (0, 0)) (z_7 BK140.out) hb)
             have n7_ := Aside0.mk (IsS63.below (z_29 HI0.out NB0_127.out NB0_135.out NB0_140.out) hb)
             have n8_ := Aside0.mk (KeepBut.trans (z_32 HK.out GW127.out GW135.out GW140.out) (KeepBut.of_below hb g none) (.inl rfl))
             have n9_ := Aside0.mk (below_step (z_30 HB.out HI0.out GE127.out GE135.out GE140.out) hb)
             clear HO_3
             clear HO_136001
             clear HO_136002
             clear HO_141001
             clear BK127
             clear BK135
             clear BK140
             clear HI0
             clear HK
             clear HB
             have HO_3 := n0_
             have HO_136001 := n1_
             have HO_136002 := n2_
             have HO_141001 := n3_
             have BK127 := n4_
             have BK135 := n5_
             have BK140 := n6_
             have HI0 := n7_
             have HK := n8_
             have HB := n9_
             clear n0_ n1_ n2_ n3_ n4_ n5_ n6_ n7_ n8_ n9_
             (try clear hb)
             (try clear hb2)
             (try clear hk)
             (try clear hi)
             refine hK.out _ _ ⟨(blk_cell BK140.out 0).trans rfl, (blk_cell BK140.out 1).trans rfl, (blk_cell BK140.out 2).trans rfl⟩ (fun hHeld => ?_)
             clear hK K
             refine nm_ ?_
             refine go_ ?_ [7] ?_
             refine on_ 8 42 (fun K hK => ?_)
             refine value_ (w1 := ?_) (v := ?_) (by rfl) rfl ?_ ?_
             rotate_left 2
             ·go_simp
              constructor
              ·rfl
              ·rfl
             refine hK.out _ _ ⟨(blk_cell (blk_alloc BK140.out _) 0).trans rfl, (blk_cell (blk_alloc BK140.out _) 1).trans rfl, (blk_cell (blk_alloc BK140.out _) 2).trans rfl⟩ (fun hHeld => ?_)
             clear hK K
             refine nm_ ?_
             refine on_ 9 43 (fun K hK => ?_)
             refine Kd.R_append_step Kd.string w.heap.size (by rfl) (.tmp 35) (.tmp 42) 24 9 (.string ⟨#[]⟩) 16 rfl Try.underlying24 info9 rfl (by decide) (by omega) u141001 x141001_2 (((⟨#[110]⟩ : ByteArray) ++ t144) ++ t145) [.string (((⟨#[110]⟩ : ByteArray) ++ t144) ++ t145)] (fun k_ => some k_ ≠ (.slice (some ad131) y128.length co6 : Value).ownBlock ∧ some k_ ≠ (.slice Ao9 y132.length co9 : Value).ownBlock) (fun _ => False) rfl rfl ?aP (fun _ hk => hk.elim) ?aF ?aO (Below.refl _ _) ?aS ?aL ?_
             (case aP => exact rfl)
             (case aF => exact (fun k_ hk => ⟨Kd.fresh' (Kd.R_lt (z_17 HO_3.out)) k_ hk, Kd.fresh' (Kd.R_lt (z_17 HO_136001.out)) k_ hk⟩))
             (case aO => exact z_17 HO_141001.out)
             (case aS => exact (keep_size (w := w) (g := g) (row := none) (z_32 HK.out GW127.out GW135.out GW140.out)))
             (case aL => have := LMc32.out; omega)
             intro v147 w36 ho hb hg hat
             rw [← Ny146.out] at ho
             have n0_ := Aside0.mk (Kd.R_after (ok := (fun k_ => some k_ ≠ (.slice Ao9 y132.length co9 : Value).ownBlock)) (z_17 HO_3.out) hg hat)
             have n1_ := Aside0.mk (Kd.R_after (ok := (fun k_ => some k_ ≠ (.slice (some ad131) y128.length co6 : Value).ownBlock)) (z_17 HO_136001.out) hg hat)
             have n2_ := Aside0.mk (Kd.S_after (ok := (fun k_ => some k_ ≠ (.slice (some ad131) y128.length co6 : Value).ownBlock ∧ some k_ ≠ (.slice Ao9 y132.length co9 : Value).ownBlock ∧ k_ ≠ gb127 ∧ k_ ≠ gb135 ∧ k_ ≠ gb140)) (by (with_reducible repeat (first | apply Kd.S_alloc | apply Kd.S_drewN | apply Kd.S_drew)); exact Kd.S_mono HO_136002.out (fun _ hk => ⟨⟨hk.1, ⟨hk.2.1, ⟨hk.2.2.2.1, ⟨hk.2.2.2.2.1, hk.2.2.2.2.2⟩⟩⟩⟩, hk.2.2.1⟩)) hg hat)
             have n3_ := Aside0.mk (blk_grown (g := gb127) (o := .cells #[.string (⟨#[]⟩ : ByteArray), .slice none 0 0, .slice none 0 0] 27 (0, 0)) (z_7 BK127.out) hg (Kd.R_ne HO_141001.out BK127.out (by decide)))
             have n4_ := Aside0.mk (blk_grown (g := gb135) (o := .cells #[.string (rdOf ByteArray.empty y128 0), .slice Ao9 y132.length co9, u136002] 27 (0, 0)) (z_7 BK135.out) hg (Kd.R_ne HO_141001.out BK135.out (by decide)))
             have n5_ := Aside0.mk (blk_grown (g := gb140) (o := .cells #[.string (rdOf ByteArray.empty y128 (ji16)), u141001, .slice none 0 0] 27 (0, 0)) (z_7 BK140.out) hg (Kd.R_ne HO_141001.out BK140.out (by decide)))
             have n6_ := Aside0.mk (IsS63.grown (z_29 HI0.out NB0_127.out NB0_135.out NB0_140.out) hg (IsS63.own_ne HI0.out HO_141001.out (by decide)))
             have n7_ := Aside0.mk (below_weaken (z_30 HB.out HI0.out GE127.out GE135.out GE140.out) HL.out hb)
             have n8_ := Aside0.mk (KeepBut.trans (z_32 HK.out GW127.out GW135.out GW140.out) (KeepBut.of_grown hg g) (Kd.R_base2 HO_141001.out))
             have n9_ := Aside0.mk (ho)
             clear HO_3
             clear HO_136001
             clear HO_136002
             clear BK127
             clear BK135
             clear BK140
             clear HI0
             clear HB
             clear HK
             clear HO_141001
             have HO_3 := n0_
             have HO_136001 := n1_
             have HO_136002 := n2_
             have BK127 := n3_
             have BK135 := n4_
             have BK140 := n5_
             have HI0 := n6_
             have HB := n7_
             have HK := n8_
             have HO148 := n9_
             clear n0_ n1_ n2_ n3_ n4_ n5_ n6_ n7_ n8_ n9_
             clear ho hb hg hat
             obtain ⟨Ao37, co37, eo37⟩ := Kd.R_slice HO148.out
             (first | subst eo37 | (injection eo37 with f1_ f2_ f3_; have f4_ := f1_.symm; have f5_ := f3_.symm; clear f1_ f2_ f3_; subst f4_; subst f5_))
             refine hK.out _ _ ⟨(blk_cell BK140.out 0).trans rfl, (blk_cell BK140.out 1).trans rfl, (blk_cell BK140.out 2).trans rfl⟩ (fun hHeld => ?_)
             clear hK K
             refine nm_ ?_
             refine go_ ?_ [10] ?_
             refine last_ (i := 11) (N := none) (bz 12 4095) rfl rfl (one_of HT_.out (by kernel_rfl)) (by decide) (fun K hK => ?_)
             have hs38 : w36.cell? ⟨gb140, 1, none⟩ = some (u141001) := (blk_cell BK140.out 1).trans rfl
             have hfs38 := blk_frozen BK140.out 1
             have hns38_0 := NB127_140.out
             have hns38_1 := NB135_140.out
             have hms38_0 := NB140_127.out
             have hms38_1 := NB140_135.out
             refine skip_ (w1 := ?_) (by rfl) rfl ?_ ?_
             rotate_left
             ·go_simp
              rfl
             refine hK.out _ _ ?_
             clear hK K
             refine done_ (done_of HT_.out (by kernel_rfl)) ?_
             try go_wp2
             go_roundg k2
             case measure => have := HK1.out; have := HK2.out; omega
             case rel => exact ⟨(wrap64 (x7_2 - 1)), (y146), (.slice Ao37 y146.length co37), z_3, H', ⟨z_36 HK1.out HK2.out⟩, ⟨z_37 HO_3.out BK140.out⟩, ⟨z_37 HO_136001.out BK140.out⟩, ⟨by (with_reducible repeat (first | apply Kd.S_alloc | apply Kd.S_drewN | apply Kd.S_drew)); exact Kd.S_mono (Kd.S_far (p := ⟨gb140, 1, none⟩) (Kd.S_mono HO_136002.out (fun k_ hk => (⟨hk, hk.1.2.2.2.2⟩ : _ ∧ k_ ≠ gb140))) (fun _ hk => hk.2) (.slice Ao37 y146.length co37)) (fun _ hk => ⟨hk.1.1.1, ⟨hk.1.1.2.1, ⟨hk.1.2, ⟨hk.1.1.2.2.1, ⟨hk.1.1.2.2.2.1, hk.1.1.2.2.2.2⟩⟩⟩⟩⟩)⟩, ⟨z_37 HO148.out BK140.out⟩, ⟨z_38 NB127_140.out BK127.out⟩, ⟨z_38 NB135_140.out BK135.out⟩, ⟨by (with_reducible repeat (first | refine blk_drewN ?_ _ | refine blk_drew ?_ | refine blk_alloc ?_ _)); refine blk_put (cs := #[.string (rdOf ByteArray.empty y128 (ji16)), u141001, .slice none 0 0]) ?_ 1 _ rfl; (with_reducible repeat (first | refine blk_drewN ?_ _ | refine blk_drew ?_ | refine blk_alloc ?_ _)); exact BK140.out⟩, ⟨z_29 HI0.out NB0_127.out NB0_135.out NB0_140.out⟩, ⟨z_32 HK.out GW127.out GW135.out GW140.out⟩, ⟨z_30 HB.out HI0.out GE127.out GE135.out GE140.out⟩⟩
            ·rw [if_neg c32] at H
             exact absurd H (by simp)
           ·rw [if_neg c31] at H
            exact absurd H (by simp)
          ·rw [if_neg c29] at H
           exact absurd H (by simp)
         ·rw [if_neg c27] at H
          have c27b0 : decide (0 < x7_2) = false := decide_eq_false c27
          clear c27
          by_cases c39 : (x136002_1.length : Int) > 0
          ·rw [if_pos c39] at H
           have c39b0 : decide (0 < (x136002_1.length : Int)) = true := decide_eq_true c39
           have c39b1 : decide (0 < x136002_1.length) = true := decide_eq_true (by omega)
           clear c39
           replace H := Option.bind_eq_some_iff.mp H
           obtain ⟨⟨t149, t150, t151⟩, A400, H⟩ := H
           replace H : (if t149 = true then ((spec_l1Below.f s0_0 t150 t151 (x136002_1.length : Int)).bind fun bt152 => (if 0 ≤ bt152.1 then (if bt152.1 < (x136002_1.length : Int) then (if (((rd_T27 x136002_1 bt152.1).f2).length : Int) > 0 then ((spec_l1Once.f s0_0 bt152.2.1 bt152.2.2 3).bind fun bt156 => (if bt156.1 = true then ((spec_l1Below.f s0_0 bt156.2.1 bt156.2.2 (((rd_T27 x136002_1 bt152.1).f2).length : Int)).bind fun bt159 => (if 0 ≤ bt159.1 then (if bt159.1 < (((rd_T27 x136002_1 bt152.1).f2).length : Int) then (if ((rd_T27 ((rd_T27 x136002_1 bt152.1).f2) bt159.1).f2).length < 2199023255552 then (spec_l22Draw.l0 k2 y128 (wrap64 (x5_1 + 1)) s0_0 bt159.2.1 bt159.2.2 (rdOf ByteArray.empty y128 0) y132 (x136002_1.set bt152.1.toNat ⟨(rd_T27 x136002_1 bt152.1).f0, (rd_T27 x136002_1 bt152.1).f1, ((rd_T27 x136002_1 bt152.1).f2).set bt159.1.toNat ⟨(rd_T27 ((rd_T27 x136002_1 bt152.1).f2) bt159.1).f0, (rd_T27 ((rd_T27 x136002_1 bt152.1).f2) bt159.1).f1, (rd_T27 ((rd_T27 x136002_1 bt152.1).f2) bt159.1).f2 ++ [(⟨(rdOf ByteArray.empty y128 (ji16)), x141001_2, ([] : List (S27))⟩ : S27)]⟩⟩)) else (none)) else (none)) else (none))) else (if ((rd_T27 x136002_1 bt152.1).f2).length < 2199023255552 then (spec_l22Draw.l0 k2 y128 (wrap64 (x5_1 + 1)) s0_0 bt156.2.1 bt156.2.2 (rdOf ByteArray.empty y128 0) y132 (x136002_1.set bt152.1.toNat ⟨(rd_T27 x136002_1 bt152.1).f0, (rd_T27 x136002_1 bt152.1).f1, (rd_T27 x136002_1 bt152.1).f2 ++ [(⟨(rdOf ByteArray.empty y128 (ji16)), x141001_2, ([] : List (S27))⟩ : S27)]⟩)) else (none)))) else (if ((rd_T27 x136002_1 bt152.1).f2).length < 2199023255552 then (spec_l22Draw.l0 k2 y128 (wrap64 (x5_1 + 1)) s0_0 bt152.2.1 bt152.2.2 (rdOf ByteArray.empty y128 0) y132 (x136002_1.set bt152.1.toNat ⟨(rd_T27 x136002_1 bt152.1).f0, (rd_T27 x136002_1 bt152.1).f1, (rd_T27 x136002_1 bt152.1).f2 ++ [(⟨(rdOf ByteArray.empty y128 (ji16)), x141001_2, ([] : List (S27))⟩ : S27)]⟩)) else (none))) else (none)) else (none))) else (if x136002_1.length < 2199023255552 then (spec_l22Draw.l0 k2 y128 (wrap64 (x5_1 + 1)) s0_0 t150 t151 (rdOf ByteArray.empty y128 0) y132 (x136002_1 ++ [(⟨(rdOf ByteArray.empty y128 (ji16)), x141001_2, ([] : List (S27))⟩ : S27)])) else (none))) = some (r1, r2, r3, r4, r5) := H
           have A40 := Aside0.mk A400
           clear A400
           by_cases c41 : t149 = true
           ·subst c41
            have H1 : ((spec_l1Below.f s0_0 t150 t151 (x136002_1.length : Int)).bind fun bt152 => (if 0 ≤ bt152.1 then (if bt152.1 < (x136002_1.length : Int) then (if (((rd_T27 x136002_1 bt152.1).f2).length : Int) > 0 then ((spec_l1Once.f s0_0 bt152.2.1 bt152.2.2 3).bind fun bt156 => (if bt156.1 = true then ((spec_l1Below.f s0_0 bt156.2.1 bt156.2.2 (((rd_T27 x136002_1 bt152.1).f2).length : Int)).bind fun bt159 => (if 0 ≤ bt159.1 then (if bt159.1 < (((rd_T27 x136002_1 bt152.1).f2).length : Int) then (if ((rd_T27 ((rd_T27 x136002_1 bt152.1).f2) bt159.1).f2).length < 2199023255552 then (spec_l22Draw.l0 k2 y128 (wrap64 (x5_1 + 1)) s0_0 bt159.2.1 bt159.2.2 (rdOf ByteArray.empty y128 0) y132 (x136002_1.set bt152.1.toNat ⟨(rd_T27 x136002_1 bt152.1).f0, (rd_T27 x136002_1 bt152.1).f1, ((rd_T27 x136002_1 bt152.1).f2).set bt159.1.toNat ⟨(rd_T27 ((rd_T27 x136002_1 bt152.1).f2) bt159.1).f0, (rd_T27 ((rd_T27 x136002_1 bt152.1).f2) bt159.1).f1, (rd_T27 ((rd_T27 x136002_1 bt152.1).f2) bt159.1).f2 ++ [(⟨(rdOf ByteArray.empty y128 (ji16)), x141001_2, ([] : List (S27))⟩ : S27)]⟩⟩)) else (none)) else (none)) else (none))) else (if ((rd_T27 x136002_1 bt152.1).f2).length < 2199023255552 then (spec_l22Draw.l0 k2 y128 (wrap64 (x5_1 + 1)) s0_0 bt156.2.1 bt156.2.2 (rdOf ByteArray.empty y128 0) y132 (x136002_1.set bt152.1.toNat ⟨(rd_T27 x136002_1 bt152.1).f0, (rd_T27 x136002_1 bt152.1).f1, (rd_T27 x136002_1 bt152.1).f2 ++ [(⟨(rdOf ByteArray.empty y128 (ji16)), x141001_2, ([] : List (S27))⟩ : S27)]⟩)) else (none)))) else (if ((rd_T27 x136002_1 bt152.1).f2).length < 2199023255552 then (spec_l22Draw.l0 k2 y128 (wrap64 (x5_1 + 1)) s0_0 bt152.2.1 bt152.2.2 (rdOf ByteArray.empty y128 0) y132 (x136002_1.set bt152.1.toNat ⟨(rd_T27 x136002_1 bt152.1).f0, (rd_T27 x136002_1 bt152.1).f1, (rd_T27 x136002_1 bt152.1).f2 ++ [(⟨(rdOf ByteArray.empty y128 (ji16)), x141001_2, ([] : List (S27))⟩ : S27)]⟩)) else (none))) else (none)) else (none))) = some (r1, r2, r3, r4, r5) := by rw [if_pos rfl] at H; exact H
            clear H
            have H := H1
            clear H1
            replace H := Option.bind_eq_some_iff.mp H
            obtain ⟨⟨t152, t153, t154⟩, A420, H⟩ := H
            replace H : (if 0 ≤ t152 then (if t152 < (x136002_1.length : Int) then (if (((rd_T27 x136002_1 t152).f2).length : Int) > 0 then ((spec_l1Once.f s0_0 t153 t154 3).bind fun bt156 => (if bt156.1 = true then ((spec_l1Below.f s0_0 bt156.2.1 bt156.2.2 (((rd_T27 x136002_1 t152).f2).length : Int)).bind fun bt159 => (if 0 ≤ bt159.1 then (if bt159.1 < (((rd_T27 x136002_1 t152).f2).length : Int) then (if ((rd_T27 ((rd_T27 x136002_1 t152).f2) bt159.1).f2).length < 2199023255552 then (spec_l22Draw.l0 k2 y128 (wrap64 (x5_1 + 1)) s0_0 bt159.2.1 bt159.2.2 (rdOf ByteArray.empty y128 0) y132 (x136002_1.set t152.toNat ⟨(rd_T27 x136002_1 t152).f0, (rd_T27 x136002_1 t152).f1, ((rd_T27 x136002_1 t152).f2).set bt159.1.toNat ⟨(rd_T27 ((rd_T27 x136002_1 t152).f2) bt159.1).f0, (rd_T27 ((rd_T27 x136002_1 t152).f2) bt159.1).f1, (rd_T27 ((rd_T27 x136002_1 t152).f2) bt159.1).f2 ++ [(⟨(rdOf ByteArray.empty y128 (ji16)), x141001_2, ([] : List (S27))⟩ : S27)]⟩⟩)) else (none)) else (none)) else (none))) else (if ((rd_T27 x136002_1 t152).f2).length < 2199023255552 then (spec_l22Draw.l0 k2 y128 (wrap64 (x5_1 + 1)) s0_0 bt156.2.1 bt156.2.2 (rdOf ByteArray.empty y128 0) y132 (x136002_1.set t152.toNat ⟨(rd_T27 x136002_1 t152).f0, (rd_T27 x136002_1 t152).f1, (rd_T27 x136002_1 t152).f2 ++ [(⟨(rdOf ByteArray.empty y128 (ji16)), x141001_2, ([] : List (S27))⟩ : S27)]⟩)) else (none)))) else (if ((rd_T27 x136002_1 t152).f2).length < 2199023255552 then (spec_l22Draw.l0 k2 y128 (wrap64 (x5_1 + 1)) s0_0 t153 t154 (rdOf ByteArray.empty y128 0) y132 (x136002_1.set t152.toNat ⟨(rd_T27 x136002_1 t152).f0, (rd_T27 x136002_1 t152).f1, (rd_T27 x136002_1 t152).f2 ++ [(⟨(rdOf ByteArray.empty y128 (ji16)), x141001_2, ([] : List (S27))⟩ : S27)]⟩)) else (none))) else (none)) else (none)) = some (r1, r2, r3, r4, r5) := H
            have A42 := Aside0.mk A420
            clear A420
            by_cases c43 : 0 ≤ t152
            ·rw [if_pos c43] at H
             have c43b0 : decide (0 ≤ t152) = true := decide_eq_true c43
             clear c43
             by_cases c44 : t152 < (x136002_1.length : Int)
             ·rw [if_pos c44] at H
              have c44b0 : decide (t152 < (x136002_1.length : Int)) = true := decide_eq_true c44
              clear c44
              by_cases c45 : (((rd_T27 x136002_1 t152).f2).length : Int) > 0
              ·rw [if_pos c45] at H
               have c45b0 : decide (0 < (((rd_T27 x136002_1 t152).f2).length : Int)) = true := decide_eq_true c45
               have c45b1 : decide (0 < ((rd_T27 x136002_1 t152).f2).length) = true := decide_eq_true (by omega)
               clear c45
               replace H := Option.bind_eq_some_iff.mp H
               obtain ⟨⟨t156, t157, t158⟩, A460, H⟩ := H
               replace H : (if t156 = true then ((spec_l1Below.f s0_0 t157 t158 (((rd_T27 x136002_1 t152).f2).length : Int)).bind fun bt159 => (if 0 ≤ bt159.1 then (if bt159.1 < (((rd_T27 x136002_1 t152).f2).length : Int) then (if ((rd_T27 ((rd_T27 x136002_1 t152).f2) bt159.1).f2).length < 2199023255552 then (spec_l22Draw.l0 k2 y128 (wrap64 (x5_1 + 1)) s0_0 bt159.2.1 bt159.2.2 (rdOf ByteArray.empty y128 0) y132 (x136002_1.set t152.toNat ⟨(rd_T27 x136002_1 t152).f0, (rd_T27 x136002_1 t152).f1, ((rd_T27 x136002_1 t152).f2).set bt159.1.toNat ⟨(rd_T27 ((rd_T27 x136002_1 t152).f2) bt159.1).f0, (rd_T27 ((rd_T27 x136002_1 t152).f2) bt159.1).f1, (rd_T27 ((rd_T27 x136002_1 t152).f2) bt159.1).f2 ++ [(⟨(rdOf ByteArray.empty y128 (ji16)), x141001_2, ([] : List (S27))⟩ : S27)]⟩⟩)) else (none)) else (none)) else (none))) else (if ((rd_T27 x136002_1 t152).f2).length < 2199023255552 then (spec_l22Draw.l0 k2 y128 (wrap64 (x5_1 + 1)) s0_0 t157 t158 (rdOf ByteArray.empty y128 0) y132 (x136002_1.set t152.toNat ⟨(rd_T27 x136002_1 t152).f0, (rd_T27 x136002_1 t152).f1, (rd_T27 x136002_1 t152).f2 ++ [(⟨(rdOf ByteArray.empty y128 (ji16)), x141001_2, ([] : List (S27))⟩ : S27)]⟩)) else (none))) = some (r1, r2, r3, r4, r5) := H
               have A46 := Aside0.mk A460
               clear A460
               by_cases c47 : t156 = true
               ·subst c47
                have H1 : ((spec_l1Below.f s0_0 t157 t158 (((rd_T27 x136002_1 t152).f2).length : Int)).bind fun bt159 => (if 0 ≤ bt159.1 then (if bt159.1 < (((rd_T27 x136002_1 t152).f2).length : Int) then (if ((rd_T27 ((rd_T27 x136002_1 t152).f2) bt159.1).f2).length < 2199023255552 then (spec_l22Draw.l0 k2 y128 (wrap64 (x5_1 + 1)) s0_0 bt159.2.1 bt159.2.2 (rdOf ByteArray.empty y128 0) y132 (x136002_1.set t152.toNat ⟨(rd_T27 x136002_1 t152).f0, (rd_T27 x136002_1 t152).f1, ((rd_T27 x136002_1 t152).f2).set bt159.1.toNat ⟨(rd_T27 ((rd_T27 x136002_1 t152).f2) bt159.1).f0, (rd_T27 ((rd_T27 x136002_1 t152).f2) bt159.1).f1, (rd_T27 ((rd_T27 x136002_1 t152).f2) bt159.1).f2 ++ [(⟨(rdOf ByteArray.empty y128 (ji16)), x141001_2, ([] : List (S27))⟩ : S27)]⟩⟩)) else (none)) else (none)) else (none))) = some (r1, r2, r3, r4, r5) := by rw [if_pos rfl] at H; exact H
                clear H
                have H := H1
                clear H1
                replace H := Option.bind_eq_some_iff.mp H
                obtain ⟨⟨t159, t160, t161⟩, A480, H⟩ := H
                replace H : (if 0 ≤ t159 then (if t159 < (((rd_T27 x136002_1 t152).f2).length : Int) then (if ((rd_T27 ((rd_T27 x136002_1 t152).f2) t159).f2).length < 2199023255552 then (spec_l22Draw.l0 k2 y128 (wrap64 (x5_1 + 1)) s0_0 t160 t161 (rdOf ByteArray.empty y128 0) y132 (x136002_1.set t152.toNat ⟨(rd_T27 x136002_1 t152).f0, (rd_T27 x136002_1 t152).f1, ((rd_T27 x136002_1 t152).f2).set t159.toNat ⟨(rd_T27 ((rd_T27 x136002_1 t152).f2) t159).f0, (rd_T27 ((rd_T27 x136002_1 t152).f2) t159).f1, (rd_T27 ((rd_T27 x136002_1 t152).f2) t159).f2 ++ [(⟨(rdOf ByteArray.empty y128 (ji16)), x141001_2, ([] : List (S27))⟩ : S27)]⟩⟩)) else (none)) else (none)) else (none)) = some (r1, r2, r3, r4, r5) := H
                have A48 := Aside0.mk A480
                clear A480
                by_cases c49 : 0 ≤ t159
                ·rw [if_pos c49] at H
                 have c49b0 : decide (0 ≤ t159) = true := decide_eq_true c49
                 clear c49
                 by_cases c50 : t159 < (((rd_T27 x136002_1 t152).f2).length : Int)
                 ·rw [if_pos c50] at H
                  have c50b0 : decide (t159 < (((rd_T27 x136002_1 t152).f2).length : Int)) = true := decide_eq_true c50
                  clear c50
                  rcases Nat.lt_or_ge ((rd_T27 ((rd_T27 x136002_1 t152).f2) t159).f2).length 2199023255552 with cL | cL
                  rotate_left
                  ·rw [if_neg (by omega)] at H; exact absurd H (by simp)
                  rw [if_pos cL] at H
                  have HLIM := Aside0.mk cL
                  clear cL
                  have H' := Aside0.mk H
                  clear H
                  have hnb51 := NB135_127.out
                  have hnc51 := NB127_135.out
                  have hnb52 := NB135_140.out
                  have hnc52 := NB140_135.out
                  have hnb53 := NB135_0.out
                  have hnc53 := NB0_135.out
                  have hcz54_0 : wr.cell? ⟨gb135, 0, none⟩ = some (.string (rdOf ByteArray.empty y128 0)) := (blk_cell BK135.out 0).trans rfl
                  have hcz54_1 : wr.cell? ⟨gb135, 1, none⟩ = some (.slice Ao9 y132.length co9) := (blk_cell BK135.out 1).trans rfl
                  have hcz54_2 : wr.cell? ⟨gb135, 2, none⟩ = some (u136002) := (blk_cell BK135.out 2).trans rfl
                  have hfz54_0 := blk_frozen BK135.out 0
                  have hfz54_1 := blk_frozen BK135.out 1
                  have hfz54_2 := blk_frozen BK135.out 2
                  obtain ⟨Ao55, co55, eo55⟩ := Kd.S_slice HO_136002.out
                  subst eo55
                  try go_wp2_with (first | (go_at_call 49; (with_reducible refine (spec_l1Once.calls g s0_0 t142 t143 2 true t150 t151 w0 _ ?side1 ?side2 A40.out).mono ?_); (case side1 => exact z_29 HI0.out NB0_127.out NB0_135.out NB0_140.out); (case side2 => exact z_30 HB.out HI0.out GE127.out GE135.out GE140.out); rintro e w56 ⟨rfl, hi, hb, hk⟩; have n0_ := Aside0.mk (Kd.R_mono (Kd.R_keep (IsS63.apart (show IsS63 w0 _ g s0_0 t142 t143 from by repeat (first | (with_reducible first | exact HI0.out | apply IsS63.alloc | apply IsS63.drewN | apply IsS63.drew | apply IsS63.set_1 | apply IsS63.set_2 | refine IsS63.far ?_ NB0_127.out _ | refine IsS63.far ?_ NB0_135.out _ | refine IsS63.far ?_ NB0_140.out _) | exact HI0.out)) (z_17 HO_3.out) (by decide)) hk (fun _ h => h.2)) (fun _ h => h.1)); have n1_ := Aside0.mk (Kd.R_mono (Kd.R_keep (IsS63.apart (show IsS63 w0 _ g s0_0 t142 t143 from by repeat (first | (with_reducible first | exact HI0.out | apply IsS63.alloc | apply IsS63.drewN | apply IsS63.drew | apply IsS63.set_1 | apply IsS63.set_2 | refine IsS63.far ?_ NB0_127.out _ | refine IsS63.far ?_ NB0_135.out _ | refine IsS63.far ?_ NB0_140.out _) | exact HI0.out)) (z_17 HO_136001.out) (by decide)) hk (fun _ h => h.2)) (fun _ h => h.1)); have n2_ := Aside0.mk (Kd.S_mono (Kd.S_keep (IsS63.apartS (show IsS63 w0 _ g s0_0 t142 t143 from by repeat (first | (with_reducible first | exact HI0.out | apply IsS63.alloc | apply IsS63.drewN | apply IsS63.drew | apply IsS63.set_1 | apply IsS63.set_2 | refine IsS63.far ?_ NB0_127.out _ | refine IsS63.far ?_ NB0_135.out _ | refine IsS63.far ?_ NB0_140.out _) | exact HI0.out)) (z_27 HO_136002.out) (by decide)) hk (fun _ h => h.2)) (fun _ h => h.1)); have n3_ := Aside0.mk (Kd.R_mono (Kd.R_keep (IsS63.apart (show IsS63 w0 _ g s0_0 t142 t143 from by repeat (first | (with_reducible first | exact HI0.out | apply IsS63.alloc | apply IsS63.drewN | apply IsS63.drew | apply IsS63.set_1 | apply IsS63.set_2 | refine IsS63.far ?_ NB0_127.out _ | refine IsS63.far ?_ NB0_135.out _ | refine IsS63.far ?_ NB0_140.out _) | exact HI0.out)) (z_17 HO_141001.out) (by decide)) hk (fun _ h => h.2)) (fun _ h => h.1)); have n4_ := Aside0.mk (KeepBut.blk hk (g' := gb127) (o := .cells #[.string (⟨#[]⟩ : ByteArray), .slice none 0 0, .slice none 0 0] 27 (0, 0)) (z_7 BK127.out) NB127_0.out (by simp)); have n5_ := Aside0.mk (KeepBut.blk hk (g' := gb135) (o := .cells #[.string (rdOf ByteArray.empty y128 0), .slice Ao9 y132.length co9, .slice Ao55 x136002_1.length co55] 27 (0, 0)) (z_7 BK135.out) NB135_0.out (by simp)); have n6_ := Aside0.mk (KeepBut.blk hk (g' := gb140) (o := .cells #[.string (rdOf ByteArray.empty y128 (ji16)), u141001, .slice none 0 0] 27 (0, 0)) (z_7 BK140.out) NB140_0.out (by simp)); have n7_ := Aside0.mk (KeepBut.trans (z_32 HK.out GW127.out GW135.out GW140.out) hk (.inl rfl)); have n8_ := Aside0.mk (hb); have n9_ := Aside0.mk (hi); clear HO_3; clear HO_136001; clear HO_136002; clear HO_141001; clear BK127; clear BK135; clear BK140; clear HK; clear HB; clear HI0; have HO_3 := n0_; have HO_136001 := n1_; have HO_136002 := n2_; have HO_141001 := n3_; have BK127 := n4_; have BK135 := n5_; have BK140 := n6_; have HK := n7_; have HB := n8_; have HI0 := n9_; clear n0_ n1_ n2_ n3_ n4_ n5_ n6_ n7_ n8_ n9_; (try clear hb); (try clear hb2); (try clear hk); (try clear hi)))
                  have n0_ := Aside0.mk (Kd.R_drew HO_3.out)
                  have n1_ := Aside0.mk (Kd.R_drew HO_136001.out)
                  have n2_ := Aside0.mk (Kd.S_drew HO_136002.out)
                  have n3_ := Aside0.mk (Kd.R_drew HO_141001.out)
                  have n4_ := Aside0.mk (blk_drew BK127.out)
                  have n5_ := Aside0.mk (blk_drew BK135.out)
                  have n6_ := Aside0.mk (blk_drew BK140.out)
                  have n7_ := Aside0.mk (IsS63.drew HI0.out)
                  have n8_ := Aside0.mk (keep_drew HK.out)
                  have n9_ := Aside0.mk (below_drew1 HB.out)
                  clear HO_3
                  clear HO_136001
                  clear HO_136002
                  clear HO_141001
                  clear BK127
                  clear BK135
                  clear BK140
                  clear HI0
                  clear HK
                  clear HB
                  have HO_3 := n0_
                  have HO_136001 := n1_
                  have HO_136002 := n2_
                  have HO_141001 := n3_
                  have BK127 := n4_
                  have BK135 := n5_
                  have BK140 := n6_
                  have HI0 := n7_
                  have HK := n8_
                  have HB := n9_
                  clear n0_ n1_ n2_ n3_ n4_ n5_ n6_ n7_ n8_ n9_
                  have p155 : 0 ≤ (t152 : Int) := of_decide_eq_true z_5
                  have q155 : t152 < (x136002_1.length : Int) := of_decide_eq_true z_5
                  obtain ⟨ad155, A155_1, c155_1, A155_2, c155_2, e155, hx155_0, hx155_1, hx155_2, hl155_1, hi155_1, hl155_2, hi155_2⟩ := at_T27 (Kd.S_reads' HO_136002.out).2.2 t152 p155 q155
                  cases e155
                  obtain ⟨ce155, hce155, hMe155, hcc155⟩ := Kd.S_get HO_136002.out z27 t152 p155 (z_39 HO_136002.out)
                  obtain ⟨ve155_1, ve155_2, rfl, ge155_1, ge155_2⟩ := k27_openM hMe155
                  have hv155_1 := hcc155 1 _ rfl
                  rw [add_field _ _ 1 (by omega)] at hv155_1
                  replace hv155_1 := Option.some.inj (hv155_1.symm.trans hx155_1)
                  rw [hv155_1] at ge155_1
                  have HL155_1 := Aside0.mk (show Kd.R Kd.string 9 _ _ _ _ ((rd_T27 x136002_1 t152).f1) from ge155_1)
                  clear hv155_1 ge155_1
                  have hv155_2 := hcc155 2 _ rfl
                  rw [add_field _ _ 2 (by omega)] at hv155_2
                  replace hv155_2 := Option.some.inj (hv155_2.symm.trans hx155_2)
                  rw [hv155_2] at ge155_2
                  have HL155_2 := Aside0.mk (show Kd.R k27 27 _ _ _ _ ((rd_T27 x136002_1 t152).f2) from ge155_2)
                  clear hv155_2 ge155_2
                  clear hcc155 hce155
                  have HR155_1 := Aside0.mk hi155_1
                  have HC155_1 := Aside0.mk hl155_1
                  clear hi155_1 hl155_1
                  have HR155_2 := Aside0.mk hi155_2
                  have HC155_2 := Aside0.mk hl155_2
                  clear hi155_2 hl155_2
                  replace p155 := eq_true p155
                  replace q155 := eq_true q155
                  refine st_ 9 (fun w' => w'.cell? ⟨gb135, 0, none⟩ = some (.string (rdOf ByteArray.empty y128 0)) ∧ w'.cell? ⟨gb135, 1, none⟩ = some (.slice Ao9 y132.length co9) ∧ w'.cell? ⟨gb135, 2, none⟩ = some (.slice (some ad155) x136002_1.length co55) ∧ w'.cell? (ad155.add ((t152).toNat * 3)) = some (.string ((rd_T27 x136002_1 t152).f0)) ∧ w'.cell? ⟨(ad155.add ((t152).toNat * 3)).block, (ad155.add ((t152).toNat * 3)).off + 1, none⟩ = some (.slice A155_1 ((rd_T27 x136002_1 t152).f1).length c155_1) ∧ w'.cell? ⟨(ad155.add ((t152).toNat * 3)).block, (ad155.add ((t152).toNat * 3)).off + 2, none⟩ = some (.slice A155_2 ((rd_T27 x136002_1 t152).f2).length c155_2)) [] ⟨(blk_cell BK135.out 0).trans rfl, (blk_cell BK135.out 1).trans rfl, (blk_cell BK135.out 2).trans rfl, hx155_0, hx155_1, hx155_2⟩ (fun hHeld => ?_); refine with_tabW spec_l22Draw.tab12 spec_l22Draw.bits12 (fun HT_ HW_ => ?_)
                  generalize w56.drew = w57 at HO_3 HO_136001 HO_136002 HO_141001 BK127 BK135 BK140 HI0 HK HB HL155_1 HL155_2 HR155_1 HR155_2 hx155_0 hx155_1 hx155_2 hHeld ⊢
                  refine go_ ?_ [0, 2, 3, 1001, 1004, 5] ?_
                  refine on_ 6 59 (fun K hK => ?_)
                  refine gs_ Try.func47 #[.pointer (some ⟨g, 0, none⟩), .int .i64 (x136002_1.length : Int)] ?_
                  with_reducible refine (spec_l1Below.calls g s0_0 t150 t151 (x136002_1.length : Int) t152 t153 t154 w0 _ ?side1 ?side2 A42.out).mono ?_
                  (case side1 => exact z_29 HI0.out NB0_127.out NB0_135.out NB0_140.out)
                  (case side2 => exact z_30 HB.out HI0.out GE127.out GE135.out GE140.out)
                  rintro e w58 ⟨rfl, hi, hb, hk⟩
                  have HS3_ := keep_cell hk (hHeld.2.2.2.1) (z_40 HI0.out HO_136002.out)
                  have HS4_ := keep_cell hk (hHeld.2.2.2.2.1) (z_40 HI0.out HO_136002.out)
                  have HS5_ := keep_cell hk (hHeld.2.2.2.2.2) (z_40 HI0.out HO_136002.out)
                  refine ⟨_, rfl, ?_⟩
                  replace HL155_1 := Aside0.mk (Kd.R_mono (Kd.R_keep (IsS63.apart HI0.out HL155_1.out (by decide)) hk (fun _ h => h.2)) (fun _ h => h.1))
                  replace HL155_2 := Aside0.mk (Kd.R_mono (Kd.R_keep (IsS63.apart HI0.out HL155_2.out (by decide)) hk (fun _ h => h.2)) (fun _ h => h.1))
                  have n0_ := Aside0.mk (Kd.R_mono (Kd.R_keep (IsS63.apart (show IsS63 w0 _ g s0_0 t150 t151 from by repeat (first | (with_reducible first | exact HI0.out | apply IsS63.alloc | apply IsS63.drewN | apply IsS63.drew | apply IsS63.set_1 | apply IsS63.set_2 | refine IsS63.far ?_ NB0_127.out _ | refine IsS63.far ?_ NB0_135.out _ | refine IsS63.far ?_ NB0_140.out _) | exact HI0.out)) (z_17 HO_3.out) (by decide)) hk (fun _ h => h.2)) (fun _ h => h.1))
                  have n1_ := Aside0.mk (Kd.R_mono (Kd.R_keep (IsS63.apart (show IsS63 w0 _ g s0_0 t150 t151 from by repeat (first | (with_reducible first | exact HI0.out | apply IsS63.alloc | apply IsS63.drewN | apply IsS63.drew | apply IsS63.set_1 | apply IsS63.set_2 | refine IsS63.far ?_ NB0_127.out _ | refine IsS63.far ?_ NB0_135.out _ | refine IsS63.far ?_ NB0_140.out _) | exact HI0.out)) (z_17 HO_136001.out) (by decide)) hk (fun _ h => h.2)) (fun _ h => h.1))
                  have n2_ := Aside0.mk (Kd.S_mono (Kd.S_keep (IsS63.apartS (show IsS63 w0 _ g s0_0 t150 t151 from by repeat (first | (with_reducible first | exact HI0.out | apply IsS63.alloc | apply IsS63.drewN | apply IsS63.drew | apply IsS63.set_1 | apply IsS63.set_2 | refine IsS63.far ?_ NB0_127.out _ | refine IsS63.far ?_ NB0_135.out _ | refine IsS63.far ?_ NB0_140.out _) | exact HI0.out)) (z_27 HO_136002.out) (by decide)) hk (fun _ h => h.2)) (fun _ h => h.1))
                  have n3_ := Aside0.mk (Kd.R_mono (Kd.R_keep (IsS63.apart (show IsS63 w0 _ g s0_0 t150 t151 from by repeat (first | (with_reducible first | exact HI0.out | apply IsS63.alloc | apply IsS63.drewN | apply IsS63.drew | apply IsS63.set_1 | apply IsS63.set_2 | refine IsS63.far ?_ NB0_127.out _ | refine IsS63.far ?_ NB0_135.out _ | refine IsS63.far ?_ NB0_140.out _) | exact HI0.out)) (z_17 HO_141001.out) (by decide)) hk (fun _ h => h.2)) (fun _ h => h.1))
                  have n4_ := Aside0.mk (KeepBut.blk hk (g' := gb127) (o := .cells #[.string (⟨#[]⟩ : ByteArray), .slice none 0 0, .slice none 0 0] 27 (0, 0)) (z_7 BK127.out) NB127_0.out (by simp))
                  have n5_ := Aside0.mk (KeepBut.blk hk (g' := gb135) (o := .cells #[.string (rdOf ByteArray.empty y128 0), .slice Ao9 y132.length co9, .slice (some ad155) x136002_1.length co55] 27 (0, 0)) (z_7 BK135.out) NB135_0.out (by simp))
                  have n6_ := Aside0.mk (KeepBut.blk hk (g' := gb140) (o := .cells #[.string (rdOf ByteArray.empty y128 (ji16)), u141001, .slice none 0 0] 27 (0, 0)) (z_7 BK140.out) NB140_0.out (by simp))
                  have n7_ := Aside0.mk (KeepBut.trans (z_32 HK.out GW127.out GW135.out GW140.out) hk (.inl rfl))
                  have n8_ := Aside0.mk (hb)
                  have n9_ := Aside0.mk (hi)
                  clear HO_3
                  clear HO_136001
                  clear HO_136002
                  clear HO_141001
                  clear BK127
                  clear BK135
                  clear BK140
                  clear HK
                  clear HB
                  clear HI0
                  have HO_3 := n0_
                  have HO_136001 := n1_
                  have HO_136002 := n2_
                  have HO_141001 := n3_
                  have BK127 := n4_
                  have BK135 := n5_
                  have BK140 := n6_
                  have HK := n7_
                  have HB := n8_
                  have HI0 := n9_
                  clear n0_ n1_ n2_ n3_ n4_ n5_ n6_ n7_ n8_ n9_
                  (try clear hb)
                  (try clear hb2)
                  (try clear hk)
                  (try clear hi)
                  refine hK.out _ _ ⟨(blk_cell BK135.out 0).trans rfl, (blk_cell BK135.out 1).trans rfl, (blk_cell BK135.out 2).trans rfl, HS3_, HS4_, HS5_⟩ (fun hHeld => ?_)
                  clear hK K
                  refine nm_ ?_
                  refine go_ ?_ [7, 8] ?_
                  refine done_ (done_of HT_.out (by kernel_rfl)) ?_
                  try go_wp2_with (first | (go_at_call 49; (with_reducible refine (spec_l1Once.calls g s0_0 t153 t154 3 true t157 t158 w0 _ ?side1 ?side2 A46.out).mono ?_); (case side1 => exact z_29 HI0.out NB0_127.out NB0_135.out NB0_140.out); (case side2 => exact z_30 HB.out HI0.out GE127.out GE135.out GE140.out); rintro e w59 ⟨rfl, hi, hb, hk⟩; have HT5_ := keep_cell hk HS5_ (z_40 HI0.out HO_136002.out); have n0_ := Aside0.mk (Kd.R_mono (Kd.R_keep (IsS63.apart (show IsS63 w0 _ g s0_0 t153 t154 from by repeat (first | (with_reducible first | exact HI0.out | apply IsS63.alloc | apply IsS63.drewN | apply IsS63.drew | apply IsS63.set_1 | apply IsS63.set_2 | refine IsS63.far ?_ NB0_127.out _ | refine IsS63.far ?_ NB0_135.out _ | refine IsS63.far ?_ NB0_140.out _) | exact HI0.out)) (z_17 HO_3.out) (by decide)) hk (fun _ h => h.2)) (fun _ h => h.1)); have n1_ := Aside0.mk (Kd.R_mono (Kd.R_keep (IsS63.apart (show IsS63 w0 _ g s0_0 t153 t154 from by repeat (first | (with_reducible first | exact HI0.out | apply IsS63.alloc | apply IsS63.drewN | apply IsS63.drew | apply IsS63.set_1 | apply IsS63.set_2 | refine IsS63.far ?_ NB0_127.out _ | refine IsS63.far ?_ NB0_135.out _ | refine IsS63.far ?_ NB0_140.out _) | exact HI0.out)) (z_17 HO_136001.out) (by decide)) hk (fun _ h => h.2)) (fun _ h => h.1)); have n2_ := Aside0.mk (Kd.S_mono (Kd.S_keep (IsS63.apartS (show IsS63 w0 _ g s0_0 t153 t154 from by repeat (first | (with_reducible first | exact HI0.out | apply IsS63.alloc | apply IsS63.drewN | apply IsS63.drew | apply IsS63.set_1 | apply IsS63.set_2 | refine IsS63.far ?_ NB0_127.out _ | refine IsS63.far ?_ NB0_135.out _ | refine IsS63.far ?_ NB0_140.out _) | exact HI0.out)) (z_27 HO_136002.out) (by decide)) hk (fun _ h => h.2)) (fun _ h => h.1)); have n3_ := Aside0.mk (Kd.R_mono (Kd.R_keep (IsS63.apart (show IsS63 w0 _ g s0_0 t153 t154 from by repeat (first | (with_reducible first | exact HI0.out | apply IsS63.alloc | apply IsS63.drewN | apply IsS63.drew | apply IsS63.set_1 | apply IsS63.set_2 | refine IsS63.far ?_ NB0_127.out _ | refine IsS63.far ?_ NB0_135.out _ | refine IsS63.far ?_ NB0_140.out _) | exact HI0.out)) (z_17 HO_141001.out) (by decide)) hk (fun _ h => h.2)) (fun _ h => h.1)); have n4_ := Aside0.mk (KeepBut.blk hk (g' := gb127) (o := .cells #[.string (⟨#[]⟩ : ByteArray), .slice none 0 0, .slice none 0 0] 27 (0, 0)) (z_7 BK127.out) NB127_0.out (by simp)); have n5_ := Aside0.mk (KeepBut.blk hk (g' := gb135) (o := .cells #[.string (rdOf ByteArray.empty y128 0), .slice Ao9 y132.length co9, .slice (some ad155) x136002_1.length co55] 27 (0, 0)) (z_7 BK135.out) NB135_0.out (by simp)); have n6_ := Aside0.mk (KeepBut.blk hk (g' := gb140) (o := .cells #[.string (rdOf ByteArray.empty y128 (ji16)), u141001, .slice none 0 0] 27 (0, 0)) (z_7 BK140.out) NB140_0.out (by simp)); have n7_ := Aside0.mk (Kd.R_mono (Kd.R_keep (IsS63.apart (show IsS63 w0 _ g s0_0 t153 t154 from by repeat (first | (with_reducible first | exact HI0.out | apply IsS63.alloc | apply IsS63.drewN | apply IsS63.drew | apply IsS63.set_1 | apply IsS63.set_2 | refine IsS63.far ?_ NB0_127.out _ | refine IsS63.far ?_ NB0_135.out _ | refine IsS63.far ?_ NB0_140.out _) | exact HI0.out)) (z_17 HL155_1.out) (by decide)) hk (fun _ h => h.2)) (fun _ h => h.1)); have n8_ := Aside0.mk (Kd.R_mono (Kd.R_keep (IsS63.apart (show IsS63 w0 _ g s0_0 t153 t154 from by repeat (first | (with_reducible first | exact HI0.out | apply IsS63.alloc | apply IsS63.drewN | apply IsS63.drew | apply IsS63.set_1 | apply IsS63.set_2 | refine IsS63.far ?_ NB0_127.out _ | refine IsS63.far ?_ NB0_135.out _ | refine IsS63.far ?_ NB0_140.out _) | exact HI0.out)) (z_17 HL155_2.out) (by decide)) hk (fun _ h => h.2)) (fun _ h => h.1)); have n9_ := Aside0.mk (KeepBut.trans (z_32 HK.out GW127.out GW135.out GW140.out) hk (.inl rfl)); have n10_ := Aside0.mk (hb); have n11_ := Aside0.mk (hi); clear HO_3; clear HO_136001; clear HO_136002; clear HO_141001; clear BK127; clear BK135; clear BK140; clear HL155_1; clear HL155_2; clear HK; clear HB; clear HI0; have HO_3 := n0_; have HO_136001 := n1_; have HO_136002 := n2_; have HO_141001 := n3_; have BK127 := n4_; have BK135 := n5_; have BK140 := n6_; have HL155_1 := n7_; have HL155_2 := n8_; have HK := n9_; have HB := n10_; have HI0 := n11_; clear n0_ n1_ n2_ n3_ n4_ n5_ n6_ n7_ n8_ n9_ n10_ n11_; (try clear hb); (try clear hb2); (try clear hk); (try clear hi)))
                  have n0_ := Aside0.mk (Kd.R_drew HO_3.out)
                  have n1_ := Aside0.mk (Kd.R_drew HO_136001.out)
                  have n2_ := Aside0.mk (Kd.S_drew HO_136002.out)
                  have n3_ := Aside0.mk (Kd.R_drew HO_141001.out)
                  have n4_ := Aside0.mk (Kd.R_drew HL155_1.out)
                  have n5_ := Aside0.mk (Kd.R_drew HL155_2.out)
                  have n6_ := Aside0.mk (blk_drew BK127.out)
                  have n7_ := Aside0.mk (blk_drew BK135.out)
                  have n8_ := Aside0.mk (blk_drew BK140.out)
                  have n9_ := Aside0.mk (IsS63.drew HI0.out)
                  have n10_ := Aside0.mk (keep_drew HK.out)
                  have n11_ := Aside0.mk (below_drew1 HB.out)
                  clear HO_3
                  clear HO_136001
                  clear HO_136002
                  clear HO_141001
                  clear HL155_1
                  clear HL155_2
                  clear BK127
                  clear BK135
                  clear BK140
                  clear HI0
                  clear HK
                  clear HB
                  have HO_3 := n0_
                  have HO_136001 := n1_
                  have HO_136002 := n2_
                  have HO_141001 := n3_
                  have HL155_1 := n4_
                  have HL155_2 := n5_
                  have BK127 := n6_
                  have BK135 := n7_
                  have BK140 := n8_
                  have HI0 := n9_
                  have HK := n10_
                  have HB := n11_
                  clear n0_ n1_ n2_ n3_ n4_ n5_ n6_ n7_ n8_ n9_ n10_ n11_
                  refine st_ 13 (fun w' => w'.cell? ⟨(ad155.add ((t152).toNat * 3)).block, (ad155.add ((t152).toNat * 3)).off + 2, none⟩ = some (.slice A155_2 ((rd_T27 x136002_1 t152).f2).length c155_2)) [] HT5_ (fun hHeld => ?_); refine with_tabW spec_l22Draw.tab14 spec_l22Draw.bits14 (fun HT_ HW_ => ?_)
                  generalize w59.drew = w60 at HO_3 HO_136001 HO_136002 HO_141001 HL155_1 HL155_2 BK127 BK135 BK140 HI0 HK HB hHeld ⊢
                  refine go_ ?_ [0, 1, 2, 4, 5, 6, 7, 1003, 1008, 9] ?_
                  refine on_ 10 81 (fun K hK => ?_)
                  refine gs_ Try.func47 #[.pointer (some ⟨g, 0, none⟩), .int .i64 (((rd_T27 x136002_1 t152).f2).length : Int)] ?_
                  with_reducible refine (spec_l1Below.calls g s0_0 t157 t158 (((rd_T27 x136002_1 t152).f2).length : Int) t159 t160 t161 w0 _ ?side1 ?side2 A48.out).mono ?_
                  (case side1 => exact z_29 HI0.out NB0_127.out NB0_135.out NB0_140.out)
                  (case side2 => exact z_30 HB.out HI0.out GE127.out GE135.out GE140.out)
                  rintro e w61 ⟨rfl, hi, hb, hk⟩
                  have HS2_ := keep_cell hk hHeld (z_40 HI0.out HO_136002.out)
                  refine ⟨_, rfl, ?_⟩
                  have n0_ := Aside0.mk (Kd.R_mono (Kd.R_keep (IsS63.apart (show IsS63 w0 _ g s0_0 t157 t158 from by repeat (first | (with_reducible first | exact HI0.out | apply IsS63.alloc | apply IsS63.drewN | apply IsS63.drew | apply IsS63.set_1 | apply IsS63.set_2 | refine IsS63.far ?_ NB0_127.out _ | refine IsS63.far ?_ NB0_135.out _ | refine IsS63.far ?_ NB0_140.out _) | exact HI0.out)) (z_17 HO_3.out) (by decide)) hk (fun _ h => h.2)) (fun _ h => h.1))
                  have n1_ := Aside0.mk (Kd.R_mono (Kd.R_keep (IsS63.apart (show IsS63 w0 _ g s0_0 t157 t158 from by repeat (first | (with_reducible first | exact HI0.out | apply IsS63.alloc | apply IsS63.drewN | apply IsS63.drew | apply IsS63.set_1 | apply IsS63.set_2 | refine IsS63.far ?_ NB0_127.out _ | refine IsS63.far ?_ NB0_135.out _ | refine IsS63.far ?_ NB0_140.out _) | exact HI0.out)) (z_17 HO_136001.out) (by decide)) hk (fun _ h => h.2)) (fun _ h => h.1))
                  have n2_ := Aside0.mk (Kd.S_mono (Kd.S_keep (IsS63.apartS (show IsS63 w0 _ g s0_0 t157 t158 from by repeat (first | (with_reducible first | exact HI0.out | apply IsS63.alloc | apply IsS63.drewN | apply IsS63.drew | apply IsS63.set_1 | apply IsS63.set_2 | refine IsS63.far ?_ NB0_127.out _ | refine IsS63.far ?_ NB0_135.out _ | refine IsS63.far ?_ NB0_140.out _) | exact HI0.out)) (z_27 HO_136002.out) (by decide)) hk (fun _ h => h.2)) (fun _ h => h.1))
                  have n3_ := Aside0.mk (Kd.R_mono (Kd.R_keep (IsS63.apart (show IsS63 w0 _ g s0_0 t157 t158 from by repeat (first | (with_reducible first | exact HI0.out | apply IsS63.alloc | apply IsS63.drewN | apply IsS63.drew | apply IsS63.set_1 | apply IsS63.set_2 | refine IsS63.far ?_ NB0_127.out _ | refine IsS63.far ?_ NB0_135.out _ | refine IsS63.far ?_ NB0_140.out _) | exact HI0.out)) (z_17 HO_141001.out) (by decide)) hk (fun _ h => h.2)) (fun _ h => h.1))
                  have n4_ := Aside0.mk (KeepBut.blk hk (g' := gb127) (o := .cells #[.string (⟨#[]⟩ : ByteArray), .slice none 0 0, .slice none 0 0] 27 (0, 0)) (z_7 BK127.out) NB127_0.out (by simp))
                  have n5_ := Aside0.mk (KeepBut.blk hk (g' := gb135) (o := .cells #[.string (rdOf ByteArray.empty y128 0), .slice Ao9 y132.length co9, .slice (some ad155) x136002_1.length co55] 27 (0, 0)) (z_7 BK135.out) NB135_0.out (by simp))
                  have n6_ := Aside0.mk (KeepBut.blk hk (g' := gb140) (o := .cells #[.string (rdOf ByteArray.empty y128 (ji16)), u141001, .slice none 0 0] 27 (0, 0)) (z_7 BK140.out) NB140_0.out (by simp))
                  have n7_ := Aside0.mk (Kd.R_mono (Kd.R_keep (IsS63.apart (show IsS63 w0 _ g s0_0 t157 t158 from by repeat (first | (with_reducible first | exact HI0.out | apply IsS63.alloc | apply IsS63.drewN | apply IsS63.drew | apply IsS63.set_1 | apply IsS63.set_2 | refine IsS63.far ?_ NB0_127.out _ | refine IsS63.far ?_ NB0_135.out _ | refine IsS63.far ?_ NB0_140.out _) | exact HI0.out)) (z_17 HL155_1.out) (by decide)) hk (fun _ h => h.2)) (fun _ h => h.1))
                  have n8_ := Aside0.mk (Kd.R_mono (Kd.R_keep (IsS63.apart (show IsS63 w0 _ g s0_0 t157 t158 from by repeat (first | (with_reducible first | exact HI0.out | apply IsS63.alloc | apply IsS63.drewN | apply IsS63.drew | apply IsS63.set_1 | apply IsS63.set_2 | refine IsS63.far ?_ NB0_127.out _ | refine IsS63.far ?_ NB0_135.out _ | refine IsS63.far ?_ NB0_140.out _) | exact HI0.out)) (z_17 HL155_2.out) (by decide)) hk (fun _ h => h.2)) (fun _ h => h.1))
                  have n9_ := Aside0.mk (KeepBut.trans (z_32 HK.out GW127.out GW135.out GW140.out) hk (.inl rfl))
                  have n10_ := Aside0.mk (hb)
                  have n11_ := Aside0.mk (hi)
                  clear HO_3
                  clear HO_136001
                  clear HO_136002
                  clear HO_141001
                  clear BK127
                  clear BK135
                  clear BK140
                  clear HL155_1
                  clear HL155_2
                  clear HK
                  clear HB
                  clear HI0
                  have HO_3 := n0_
                  have HO_136001 := n1_
                  have HO_136002 := n2_
                  have HO_141001 := n3_
                  have BK127 := n4_
                  have BK135 := n5_
                  have BK140 := n6_
                  have HL155_1 := n7_
                  have HL155_2 := n8_
                  have HK := n9_
                  have HB := n10_
                  have HI0 := n11_
                  clear n0_ n1_ n2_ n3_ n4_ n5_ n6_ n7_ n8_ n9_ n10_ n11_
                  (try clear hb)
                  (try clear hb2)
                  (try clear hk)
                  (try clear hi)
                  have p162 : 0 ≤ (t159 : Int) := of_decide_eq_true z_5
                  have q162 : t159 < (((rd_T27 x136002_1 t152).f2).length : Int) := of_decide_eq_true z_5
                  obtain ⟨ad162, A162_1, c162_1, A162_2, c162_2, e162, hx162_0, hx162_1, hx162_2, hl162_1, hi162_1, hl162_2, hi162_2⟩ := at_T27 (Kd.R_reads' HL155_2.out).2.2 t159 p162 q162
                  cases e162
                  obtain ⟨ce162, hce162, hMe162, hcc162⟩ := Kd.R_get HL155_2.out z27 t159 p162 (by first | exact q162 | exact of_decide_eq_true z_5 | (have e_ := (Kd.R_reads' HL155_2.out).1; omega))
                  obtain ⟨ve162_1, ve162_2, rfl, ge162_1, ge162_2⟩ := k27_openM hMe162
                  have hv162_1 := hcc162 1 _ rfl
                  rw [add_field _ _ 1 (by omega)] at hv162_1
                  replace hv162_1 := Option.some.inj (hv162_1.symm.trans hx162_1)
                  rw [hv162_1] at ge162_1
                  have HL162_1 := Aside0.mk (show Kd.R Kd.string 9 _ _ _ _ ((rd_T27 ((rd_T27 x136002_1 t152).f2) t159).f1) from ge162_1)
                  clear hv162_1 ge162_1
                  have hv162_2 := hcc162 2 _ rfl
                  rw [add_field _ _ 2 (by omega)] at hv162_2
                  replace hv162_2 := Option.some.inj (hv162_2.symm.trans hx162_2)
                  rw [hv162_2] at ge162_2
                  have HL162_2 := Aside0.mk (show Kd.R k27 27 _ _ _ _ ((rd_T27 ((rd_T27 x136002_1 t152).f2) t159).f2) from ge162_2)
                  clear hv162_2 ge162_2
                  clear hcc162 hce162
                  have HR162_1 := Aside0.mk hi162_1
                  have HC162_1 := Aside0.mk hl162_1
                  clear hi162_1 hl162_1
                  have HR162_2 := Aside0.mk hi162_2
                  have HC162_2 := Aside0.mk hl162_2
                  clear hi162_2 hl162_2
                  replace p162 := eq_true p162
                  replace q162 := eq_true q162
                  refine hK.out _ _ HS2_ (fun hHeld => ?_)
                  clear hK K
                  refine nm_ ?_
                  refine go_ ?_ [11, 12] ?_
                  refine done_ (done_of HT_.out (by kernel_rfl)) ?_
                  try go_wp2
                  have HS' : Kd.S k27 27 w61 w.heap.size (fun k_ => (some k_ ≠ (.slice (some ad131) y128.length co6 : Value).ownBlock ∧ some k_ ≠ (.slice Ao9 y132.length co9 : Value).ownBlock ∧ k_ ≠ gb127 ∧ k_ ≠ gb135) ∧ ¬ (w61.heap.size ≤ k_ ∨ some k_ = u141001.ownBlock)) (.slice (some ad155) x136002_1.length co55) x136002_1 := Kd.S_mono (Kd.S_bound HO_136002.out) (fun k hk => ⟨⟨hk.1.1, hk.1.2.1, hk.1.2.2.2.1, hk.1.2.2.2.2.1⟩, fun h_ => h_.elim (fun h2 => by have := hk.2.2.1; omega) (fun h2 => hk.1.2.2.1 h2)⟩)
                  obtain ⟨g1, hg1⟩ := Kd.R_head (Kd.S_R HS')
                  have HG1 := Aside0.mk hg1
                  rw [hg1] at HS'
                  clear hg1
                  obtain ⟨oki, ce, hcl, hMe, hcc, hfr, hoki, hH⟩ := Kd.S_elem HS' z27 t152 (of_decide_eq_true c43b0) (of_decide_eq_true c44b0)
                  obtain ⟨ve1, ve2, rfl, hm1, hm2⟩ := k27_openM hMe
                  have HS5g : w61.cell? ⟨g1, t152.toNat * 3 + 2, none⟩ = some (.slice (some ad162) (((rd_T27 x136002_1 t152).f2).length) c155_2) := by
                   have z := HS2_
                   rw [HG1.out, add_at, Nat.zero_add] at z
                   exact z
                  have hv2 : ve2 = .slice (some ad162) (((rd_T27 x136002_1 t152).f2).length) c155_2 := Option.some.inj ((hcc 2 _ rfl).symm.trans HS5g)
                  subst hv2
                  have HIN := Aside0.mk (show k27.R 27 w61 w.heap.size oki (.slice (some ad162) (((rd_T27 x136002_1 t152).f2).length) c155_2) (((rd_T27 x136002_1 t152).f2)) from hm2)
                  have HM1 := Aside0.mk hm1
                  have HCC := Aside0.mk hcc
                  have HFR := Aside0.mk hfr
                  have HOKI := Aside0.mk hoki
                  have HH := Aside0.mk hH
                  clear hm1 hm2 hcc hfr hoki hH HS5g HS' hcl hMe
                  have hin := HIN.out
                  obtain ⟨g2, hg2⟩ := Kd.R_head hin
                  have HG2 := Aside0.mk hg2
                  rw [hg2] at hin
                  clear hg2
                  have HINN := Aside0.mk hin
                  obtain ⟨ce2, hcl2, hMe2, hcc2, hfr2⟩ := Kd.R_elem hin z27 t159 (of_decide_eq_true c49b0) (of_decide_eq_true c50b0)
                  obtain ⟨vf1, vf2, rfl, hn1, hn2⟩ := k27_openM hMe2
                  have HS5g : w61.cell? ⟨g2, t159.toNat * 3 + 2, none⟩ = some (.slice A162_2 (((rd_T27 ((rd_T27 x136002_1 t152).f2) t159).f2).length) c162_2) := by
                   have z := hx162_2
                   rw [HG2.out, add_at, Nat.zero_add] at z
                   exact z
                  have hv2 : vf2 = .slice A162_2 (((rd_T27 ((rd_T27 x136002_1 t152).f2) t159).f2).length) c162_2 := Option.some.inj ((hcc2 2 _ rfl).symm.trans HS5g)
                  subst hv2
                  have HIN2 := Aside0.mk (show k27.R 27 w61 w.heap.size (fun k => oki k ∧ k ≠ g2) (.slice A162_2 (((rd_T27 ((rd_T27 x136002_1 t152).f2) t159).f2).length) c162_2) (((rd_T27 ((rd_T27 x136002_1 t152).f2) t159).f2)) from hn2)
                  have HN1 := Aside0.mk hn1
                  have HCC2 := Aside0.mk hcc2
                  have HFR2 := Aside0.mk hfr2
                  clear hn1 hn2 hcc2 hfr2 HS5g hcl2 hMe2 hin
                  obtain ⟨RS, hRl, hRn, hRM, hRC⟩ := raws HIN2.out
                  refine st_ 13 (fun w' => w'.cell? ⟨gb140, 0, none⟩ = some (.string (rdOf ByteArray.empty y128 (ji16))) ∧ w'.cell? ⟨gb140, 1, none⟩ = some (u141001) ∧ w'.cell? ⟨gb140, 2, none⟩ = some (.slice none 0 0) ∧ w'.cell? ⟨(ad162.add ((t159).toNat * 3)).block, (ad162.add ((t159).toNat * 3)).off + 2, none⟩ = some (.slice A162_2 ((rd_T27 ((rd_T27 x136002_1 t152).f2) t159).f2).length c162_2)) [12] ⟨(blk_cell BK140.out 0).trans rfl, (blk_cell BK140.out 1).trans rfl, (blk_cell BK140.out 2).trans rfl, hx162_2⟩ (fun hHeld => ?_); refine with_tabW spec_l22Draw.tab15 spec_l22Draw.bits15 (fun HT_ HW_ => ?_)
                  have hBd : Below w61.heap.size w61 w61.drew := below_drew1 (Below.refl _ _)
                  generalize w61.drew = wd at hBd hHeld ⊢
                  refine go_ ?_ [0, 2, 3, 4, 1007, 1005] ?_
                  have hRC3 : (Kd.raw 3).C wd A162_2 (((rd_T27 ((rd_T27 x136002_1 t152).f2) t159).f2).length) RS := Kd.C_below hRC hBd
                  have hK1 : ∀ u ∈ ([.string (rdOf ByteArray.empty y128 (ji16)), u141001, .slice none 0 0] : List Value), u.oneCell' = true := by rw [show u141001 = _ from (Kd.R_slice HO_141001.out).choose_spec.choose_spec]; simp [Value.oneCell']
                  have hB0 : Below wd.heap.size wd wd := Below.refl _ _
                  have hlim : (([] : List (List Value)).length + ((rd_T27 ((rd_T27 x136002_1 t152).f2) t159).f2).length) * 64 ≤ 140737488355328 := by have := HLIM.out; simp only [List.length_nil]; omega
                  have hlim2 : (RS.length + 1) * 64 ≤ 140737488355328 := by have := HLIM.out; rw [hRl]; omega
                  have hSS : ∀ w', Below wd.heap.size wd w' → w'.cell? ⟨gb140, 0, none⟩ = some (.string (rdOf ByteArray.empty y128 (ji16))) ∧ w'.cell? ⟨gb140, 1, none⟩ = some (u141001) ∧ w'.cell? ⟨gb140, 2, none⟩ = some (.slice none 0 0) ∧ w'.cell? ⟨(ad162.add ((t159).toNat * 3)).block, (ad162.add ((t159).toNat * 3)).off + 2, none⟩ = some (.slice A162_2 (((rd_T27 ((rd_T27 x136002_1 t152).f2) t159).f2).length) c162_2) := fun w' hb => ⟨(hb.cell (World.block_lt_of_cell? wd _ hHeld.1)).trans hHeld.1, (hb.cell (World.block_lt_of_cell? wd _ hHeld.2.1)).trans hHeld.2.1, (hb.cell (World.block_lt_of_cell? wd _ hHeld.2.2.1)).trans hHeld.2.2.1, (hb.cell (World.block_lt_of_cell? wd _ hHeld.2.2.2)).trans hHeld.2.2.2⟩
                  refine join_ (σ := Value × Value × Value) 4 (bz 13 511) (fun s_ => [(84, s_.1), (89, s_.2.1), (91, s_.2.2)]) (fun s_ w' => Below wd.heap.size wd w' ∧ (Kd.raw 3).R 27 w' wd.heap.size (fun k => some k ≠ s_.2.2.ownBlock) s_.2.1 RS ∧ (Kd.raw 3).R 27 w' wd.heap.size (fun _ => True) s_.2.2 [[.string (rdOf ByteArray.empty y128 (ji16)), u141001, .slice none 0 0]]) ?_ ?_
                  rotate_left
                  ·intro hCont
                   refine two_ (i := 1) (j := 8) (Ni := some 84) (Nj := some 91) (bz 13 191) (bz 13 445) rfl rfl rfl rfl (two_of HT_.out (by kernel_rfl)) (by decide) (by decide) (fun K hK => ?_) (fun K hK => ?_)
                   ·refine Kd.R_lit_step (Kd.raw 3) (w0 := wd) wd.heap.size 27 (by rfl) (N := 84) rfl (xs := ([] : List (List Value))) (inner := []) (ok := fun _ => True) (okp := fun _ => False) ?hra (Reps.none _ _) (fun _ h => h.elim) trivial hB0 hB0.size (by simp) ?_
                    (case hra => first | (go_simp; done) | (go_simp; rfl))
                    intro v84 wa ho84 hba hga hn84
                    refine hK.out _ _ (hSS _ hba) (fun hHeld => ?_)
                    clear hK K
                    refine nm_ ?_
                    refine two_ (i := 6) (j := 8) (Ni := some 89) (Nj := some 91) (bz 13 255) (bz 13 447) rfl rfl rfl rfl (two_of HT_.out (by kernel_rfl)) (by decide) (by decide) (fun K hK => ?_) (fun K hK => ?_)
                    ·refine Kd.R_append_rows_step (Kd.raw 3) (Rr := (Kd.raw 3).K wd) (w0 := wd) wd.heap.size (by rfl) (.tmp 84) (.tmp 88) 25 27 (.agg #[(.string ⟨#[]⟩), (.slice none 0 0), (.slice none 0 0)]) 64 (by rfl) Try.underlying25 info27 rfl (by decide) (by decide) v84 [] RS A162_2 (((rd_T27 ((rd_T27 x136002_1 t152).f2) t159).f2).length) c162_2 (fun _ => True) (fun _ => False) (by rfl) (by rfl) ho84 (Kd.C_below hRC3 hba) (fun _ _ h => h) (fun _ h => h.elim) (fun _ _ => trivial) hba hba.size hlim ?_
                     intro v89 wb ho89 hbb hgb hat89
                     refine hK.out _ _ (hSS _ hbb) (fun hHeld => ?_)
                     clear hK K
                     refine nm_ ?_
                     refine on_ 8 91 (fun K hK => ?_)
                     refine Kd.R_lit_step (Kd.raw 3) (w0 := wd) wd.heap.size 27 (by rfl) (N := 91) rfl (xs := [[.string (rdOf ByteArray.empty y128 (ji16)), u141001, .slice none 0 0]]) (inner := [.string (rdOf ByteArray.empty y128 (ji16)), u141001, .slice none 0 0]) (ok := fun _ => True) (okp := fun _ => False) ?hrc (raw_one _ _ _ _ rfl hK1) (fun _ h => h.elim) trivial hbb hbb.size (by simp) ?_
                     (case hrc => first | (go_simp; done) | (go_simp; rfl))
                     intro v91 wc_ ho91 hbc hgc hn91
                     refine hK.out _ _ (hSS _ hbc) (fun hHeld => ?_)
                     clear hK K
                     refine nm_ ?_
                     have hne : ∀ k, v89.ownBlock = some k → some k ≠ v91.ownBlock := fun k hk he => by obtain ⟨b_, e_, l_⟩ := hn91; rw [e_] at he; cases he; have := Kd.R_lt ho89 _ hk; omega
                     exact hCont (v84, v89, v91) _ ⟨hbc, raw_ok (raw_grown ho89 hgc (by simp)) hne, ho91⟩
                    ·refine Kd.R_lit_step (Kd.raw 3) (w0 := wd) wd.heap.size 27 (by rfl) (N := 91) rfl (xs := [[.string (rdOf ByteArray.empty y128 (ji16)), u141001, .slice none 0 0]]) (inner := [.string (rdOf ByteArray.empty y128 (ji16)), u141001, .slice none 0 0]) (ok := fun _ => True) (okp := fun _ => False) ?hrb (raw_one _ _ _ _ rfl hK1) (fun _ h => h.elim) trivial hba hba.size (by simp) ?_
                     (case hrb => first | (go_simp; done) | (go_simp; rfl))
                     intro v91 wb ho91 hbb hgb hn91
                     refine hK.out _ _ (hSS _ hbb) (fun hHeld => ?_)
                     clear hK K
                     refine nm_ ?_
                     refine on_ 6 89 (fun K hK => ?_)
                     have ho84' := raw_grown ho84 hgb (by simp)
                     have hne4 : ∀ k, v91.ownBlock = some k → some k ≠ v84.ownBlock := fun k hk he => by obtain ⟨b_, e_, l_⟩ := hn91; rw [e_] at hk; cases hk; have := Kd.R_lt ho84 _ he.symm; omega
                     clear ho84
                     have ho84 := ho84'
                     clear ho84'
                     refine Kd.R_append_rows_step (Kd.raw 3) (Rr := (Kd.raw 3).K wd) (w0 := wd) wd.heap.size (by rfl) (.tmp 84) (.tmp 88) 25 27 (.agg #[(.string ⟨#[]⟩), (.slice none 0 0), (.slice none 0 0)]) 64 (by rfl) Try.underlying25 info27 rfl (by decide) (by decide) v84 [] RS A162_2 (((rd_T27 ((rd_T27 x136002_1 t152).f2) t159).f2).length) c162_2 (fun _ => True) (fun _ => False) (by rfl) (by rfl) ho84 (Kd.C_below hRC3 hbb) (fun _ _ h => h) (fun _ h => h.elim) (fun _ _ => trivial) hbb hbb.size hlim ?_
                     intro v89 wc_ ho89 hbc hgc hat89
                     refine hK.out _ _ (hSS _ hbc) (fun hHeld => ?_)
                     clear hK K
                     refine nm_ ?_
                     have hne : ∀ k, v89.ownBlock = some k → some k ≠ v91.ownBlock := by
                      intro k hk he
                      rcases hat89 with h_ | ⟨b_, e_, l_⟩
                      ·exact hne4 k he.symm z_41
                      ·rw [e_] at hk; cases hk; have := Kd.R_lt ho91 _ he.symm; omega
                     exact hCont (v84, v89, v91) _ ⟨hbc, raw_ok ho89 hne, raw_grown ho91 hgc hne4⟩
                   ·refine Kd.R_lit_step (Kd.raw 3) (w0 := wd) wd.heap.size 27 (by rfl) (N := 91) rfl (xs := [[.string (rdOf ByteArray.empty y128 (ji16)), u141001, .slice none 0 0]]) (inner := [.string (rdOf ByteArray.empty y128 (ji16)), u141001, .slice none 0 0]) (ok := fun _ => True) (okp := fun _ => False) ?hra (raw_one _ _ _ _ rfl hK1) (fun _ h => h.elim) trivial hB0 hB0.size (by simp) ?_
                    (case hra => first | (go_simp; done) | (go_simp; rfl))
                    intro v91 wa ho91 hba hga hn91
                    refine hK.out _ _ (hSS _ hba) (fun hHeld => ?_)
                    clear hK K
                    refine nm_ ?_
                    refine on_ 1 84 (fun K hK => ?_)
                    refine Kd.R_lit_step (Kd.raw 3) (w0 := wd) wd.heap.size 27 (by rfl) (N := 84) rfl (xs := ([] : List (List Value))) (inner := []) (ok := fun _ => True) (okp := fun _ => False) ?hrb (Reps.none _ _) (fun _ h => h.elim) trivial hba hba.size (by simp) ?_
                    (case hrb => first | (go_simp; done) | (go_simp; rfl))
                    intro v84 wb ho84 hbb hgb hn84
                    refine hK.out _ _ (hSS _ hbb) (fun hHeld => ?_)
                    clear hK K
                    refine nm_ ?_
                    refine on_ 6 89 (fun K hK => ?_)
                    have ho91' := raw_grown ho91 hgb (by simp)
                    have hne4 : ∀ k, v91.ownBlock = some k → some k ≠ v84.ownBlock := fun k hk he => by obtain ⟨b_, e_, l_⟩ := hn84; rw [e_] at he; cases he; have := Kd.R_lt ho91 _ hk; omega
                    clear ho91
                    have ho91 := ho91'
                    clear ho91'
                    refine Kd.R_append_rows_step (Kd.raw 3) (Rr := (Kd.raw 3).K wd) (w0 := wd) wd.heap.size (by rfl) (.tmp 84) (.tmp 88) 25 27 (.agg #[(.string ⟨#[]⟩), (.slice none 0 0), (.slice none 0 0)]) 64 (by rfl) Try.underlying25 info27 rfl (by decide) (by decide) v84 [] RS A162_2 (((rd_T27 ((rd_T27 x136002_1 t152).f2) t159).f2).length) c162_2 (fun _ => True) (fun _ => False) (by rfl) (by rfl) ho84 (Kd.C_below hRC3 hbb) (fun _ _ h => h) (fun _ h => h.elim) (fun _ _ => trivial) hbb hbb.size hlim ?_
                    intro v89 wc_ ho89 hbc hgc hat89
                    refine hK.out _ _ (hSS _ hbc) (fun hHeld => ?_)
                    clear hK K
                    refine nm_ ?_
                    have hne : ∀ k, v89.ownBlock = some k → some k ≠ v91.ownBlock := by
                     intro k hk he
                     rcases hat89 with h_ | ⟨b_, e_, l_⟩
                     ·exact hne4 k he.symm z_41
                     ·rw [e_] at hk; cases hk; have := Kd.R_lt ho91 _ he.symm; omega
                    exact hCont (v84, v89, v91) _ ⟨hbc, raw_ok ho89 hne, raw_grown ho91 hgc hne4⟩
                  ·rintro ⟨v84, v89, v91⟩ wj ⟨hbj, ho89, ho91⟩
                   obtain ⟨A91, c91, e91⟩ := Kd.R_slice ho91
                   subst e91
                   refine norm_ (a' := ?_) ?_ ?_
                   rotate_left
                   ·show putAll _ [(84, v84), (89, v89), (91, .slice A91 _ c91)] = _
                    simp only [putAll, Act.put, List.setIfInBounds_toArray, List.set_cons_zero, List.set_cons_succ, i64_w, i32_w]
                    rfl
                   refine on_ 9 92 (fun K hK => ?_)
                   refine Kd.R_append_rows_step (Kd.raw 3) (Rr := (Kd.raw 3).K wj) (w0 := wd) wd.heap.size (by rfl) (.tmp 89) (.tmp 91) 25 27 (.agg #[(.string ⟨#[]⟩), (.slice none 0 0), (.slice none 0 0)]) 64 (by rfl) Try.underlying25 info27 rfl (by decide) (by decide) v89 RS [[.string (rdOf ByteArray.empty y128 (ji16)), u141001, .slice none 0 0]] A91 1 c91 (fun _ => True) (fun _ => False) (by rfl) (by rfl) (raw_ok ho89 (fun _ _ => trivial)) (Kd.R_reads' ho91).2.2 (fun _ _ h => h) (fun _ h => h.elim) (fun _ _ => trivial) hbj hbj.size hlim2 ?_
                   intro v92 wk ho92 hbk hgk hat92
                   obtain ⟨A92, c92, e92⟩ := Kd.R_slice ho92
                   subst e92
                   refine hK.out _ _ (hSS _ hbk) (fun hHeld => ?_)
                   clear hK K
                   refine nm_ ?_
                   refine go_ ?_ [10, 11] ?_
                   refine last_ (i := 12) (N := none) (bz 13 8191) rfl rfl (one_of HT_.out (by kernel_rfl)) (by decide) (fun K hK => ?_)
                   have hs15 : wk.cell? ⟨(ad162.add ((t159).toNat * 3)).block, (ad162.add ((t159).toNat * 3)).off + 2, none⟩ = some (.slice A162_2 (((rd_T27 ((rd_T27 x136002_1 t152).f2) t159).f2).length) c162_2) := (hSS _ hbk).2.2.2
                   have hB9 : Below w61.heap.size w61 wk := hBd.trans (hbk.mono hBd.size)
                   have hfs15 : wk.frozen? ⟨(ad162.add ((t159).toNat * 3)).block, (ad162.add ((t159).toNat * 3)).off + 2, none⟩ = false := by
                    have z : w61.frozen? ⟨g2, t159.toNat * 3 + 2, none⟩ = false := HFR2.out 2
                    rw [HG2.out, add_at]
                    simp only [Nat.zero_add]
                    have z2 : wk.frozen? ⟨g2, t159.toNat * 3 + 2, none⟩ = false := (hB9.frozen (p := ⟨g2, t159.toNat * 3 + 2, none⟩) (World.block_lt_of_cell? w61 ⟨g2, t159.toNat * 3 + 2, none⟩ (HCC2.out 2 _ rfl))).trans z
                    exact z2
                   refine skip_ (w1 := ?_) (by rfl) rfl ?_ ?_
                   rotate_left
                   ·go_simp
                    rfl
                   refine hK.out _ _ ?_
                   clear hK K
                   refine done_ (done_of HT_.out (by kernel_rfl)) ?_
                   try go_wp2
                   have hsz : w.heap.size ≤ w61.heap.size := HK.out.1
                   have hg1 : some g1 = (Value.slice (some ad155) x136002_1.length co55).ownBlock := by rw [HG1.out]; rfl
                   have ho92' : (Kd.raw 3).R 27 wk wd.heap.size (fun _ => True) (.slice A92 (((rd_T27 ((rd_T27 x136002_1 t152).f2) t159).f2).length + 1) c92) (RS ++ [[.string (rdOf ByteArray.empty y128 (ji16)), u141001, .slice none 0 0]]) := by
                    have z := ho92
                    rw [show (RS ++ [[.string (rdOf ByteArray.empty y128 (ji16)), u141001, .slice none 0 0]]).length = ((rd_T27 ((rd_T27 x136002_1 t152).f2) t159).f2).length + 1 from by simp [hRl]] at z
                    exact z
                   have hRK : k27.R 27 wk w.heap.size (fun k_ => (oki k_ ∧ k_ ≠ g2) ∨ (w61.heap.size ≤ k_ ∨ some k_ = u141001.ownBlock)) (.slice A92 (((rd_T27 ((rd_T27 x136002_1 t152).f2) t159).f2).length + 1) c92) ((rd_T27 ((rd_T27 x136002_1 t152).f2) t159).f2 ++ [(⟨(rdOf ByteArray.empty y128 (ji16)), x141001_2, ([] : List (S27))⟩ : S27)]) := by
                    refine of_raws (d := k27) (Kd.R_lower ho92' (Nat.le_trans hsz hBd.size)) (fun k hk => .inr (.inl (Nat.le_trans hBd.size (Kd.R_base ho92' k hk)))) (by simp [hRl]) (fun j x hx => ?_)
                    by_cases hj : j < (rd_T27 ((rd_T27 x136002_1 t152).f2) t159).f2.length
                    ·rw [List.getElem?_append_left hj] at hx
                     rw [List.getD_eq_getElem?_getD, List.getElem?_append_left (by rw [hRl]; exact hj), ← List.getD_eq_getElem?_getD]
                     refine k27.M_mono (fun k hk => ⟨.inl hk.1.1, fun he => ?_⟩) (Kd.M_below (k27.M_bound (hRM j x hx)) hB9)
                     have h1 := hk.2.2.1
                     have h2 := Kd.R_base ho92' k he.symm
                     have h3 := hBd.size
                     omega
                    ·have hj2 : j = (rd_T27 ((rd_T27 x136002_1 t152).f2) t159).f2.length := by
                      have := (List.getElem?_eq_some_iff.1 hx).1
                      simp at this
                      omega
                     subst hj2
                     rw [List.getElem?_append_right (Nat.le_refl _), Nat.sub_self] at hx
                     obtain rfl := Option.some.inj hx
                     rw [List.getD_eq_getElem?_getD, List.getElem?_append_right z_42, hRl, Nat.sub_self]
                     refine k27_mkM _ _ _ (⟨(rdOf ByteArray.empty y128 (ji16)), x141001_2, ([] : List (S27))⟩ : S27) (Kd.R_mono (Kd.R_tight rfl (Kd.R_below HO_141001.out hB9)) (fun k hk => ⟨.inr (.inr hk), fun he => ?_⟩)) (Kd.R_nil _ _ _ _ _)
                     have h1 := Kd.R_lt HO_141001.out k hk.symm
                     have h2 := Kd.R_base ho92' k he.symm
                     have h3 := hBd.size
                     omega
                   have hM' : k27.M wk w.heap.size (fun k_ => (oki k_ ∧ k_ ≠ g2) ∨ (w61.heap.size ≤ k_ ∨ some k_ = u141001.ownBlock)) (⟨(rd_T27 ((rd_T27 x136002_1 t152).f2) t159).f0, (rd_T27 ((rd_T27 x136002_1 t152).f2) t159).f1, (rd_T27 ((rd_T27 x136002_1 t152).f2) t159).f2 ++ [(⟨(rdOf ByteArray.empty y128 (ji16)), x141001_2, ([] : List (S27))⟩ : S27)]⟩ : S27) [.string (rd_T27 ((rd_T27 x136002_1 t152).f2) t159).f0, vf1, (.slice A92 (((rd_T27 ((rd_T27 x136002_1 t152).f2) t159).f2).length + 1) c92)] := k27_mkM _ _ _ (⟨(rd_T27 ((rd_T27 x136002_1 t152).f2) t159).f0, (rd_T27 ((rd_T27 x136002_1 t152).f2) t159).f1, (rd_T27 ((rd_T27 x136002_1 t152).f2) t159).f2 ++ [(⟨(rdOf ByteArray.empty y128 (ji16)), x141001_2, ([] : List (S27))⟩ : S27)]⟩ : S27) (Kd.R_mono (Kd.R_below HN1.out hB9) (fun k hk => .inl hk)) hRK
                   have hlt1 : g1 < w61.heap.size := Kd.S_lt HO_136002.out g1 hg1.symm
                   have hog2 : oki g2 := HINN.out.1 g2 rfl
                   have hf := (HOKI.out g2 hog2).1.1
                   have hlt2 : g2 < w61.heap.size := Kd.R_lt HINN.out g2 rfl
                   have HW1 : w.heap.size ≤ g2 := Kd.R_base HINN.out g2 rfl
                   have hu2 : some g2 ≠ u141001.ownBlock := fun h_ => (HOKI.out g2 hog2).1.2 (.inr h_)
                   have hseg := Kd.R_seg (Kd.R_mono (ok' := fun k_ => oki k_ ∨ (w61.heap.size ≤ k_ ∨ some k_ = u141001.ownBlock)) (Kd.R_below HINN.out hB9) (fun k hk => .inl hk)) t159 (of_decide_eq_true c49b0) (of_decide_eq_true c50b0) (seg := [(.slice A92 (((rd_T27 ((rd_T27 x136002_1 t152).f2) t159).f2).length + 1) c92)]) (j := 2) (c := [.string (rd_T27 ((rd_T27 x136002_1 t152).f2) t159).f0, vf1, .slice A162_2 (((rd_T27 ((rd_T27 x136002_1 t152).f2) t159).f2).length) c162_2]) rfl (fun j u hu => (hB9.cell (World.block_lt_of_cell? _ _ (HCC2.out j u hu))).trans (HCC2.out j u hu)) z_43 hM' (fun k hk => by
                    rcases hk with hk | hk
                    ·exact ⟨.inl hk.1, hk.2⟩
                    ·exact ⟨.inr hk, fun he => hk.elim (fun h_ => by omega) (fun h_ => hu2 (by rw [← he]; exact h_))⟩)
                   obtain ⟨cg2, hcg2⟩ : ∃ cells, wk.heap[g2]? = some (.cells cells 27 (0, 0)) := by
                    obtain ⟨inner, ho_⟩ := Kd.R_own (Kd.R_below HINN.out hB9)
                    exact own_typed ho_ g2 rfl
                   have hM1 : k27.M (wk.setCell ⟨g2, t159.toNat * 3 + 2, none⟩ (.slice A92 (((rd_T27 ((rd_T27 x136002_1 t152).f2) t159).f2).length + 1) c92)) w.heap.size (fun k_ => oki k_ ∨ (w61.heap.size ≤ k_ ∨ some k_ = u141001.ownBlock)) (⟨(rd_T27 x136002_1 t152).f0, (rd_T27 x136002_1 t152).f1, (rd_T27 x136002_1 t152).f2.set t159.toNat (⟨(rd_T27 ((rd_T27 x136002_1 t152).f2) t159).f0, (rd_T27 ((rd_T27 x136002_1 t152).f2) t159).f1, (rd_T27 ((rd_T27 x136002_1 t152).f2) t159).f2 ++ [(⟨(rdOf ByteArray.empty y128 (ji16)), x141001_2, ([] : List (S27))⟩ : S27)]⟩ : S27)⟩ : S27) [.string (rd_T27 x136002_1 t152).f0, ve1, .slice (some ⟨g2, 0, none⟩) (((rd_T27 x136002_1 t152)).f2.length) c155_2] := k27_mkM _ _ _ (⟨(rd_T27 x136002_1 t152).f0, (rd_T27 x136002_1 t152).f1, (rd_T27 x136002_1 t152).f2.set t159.toNat (⟨(rd_T27 ((rd_T27 x136002_1 t152).f2) t159).f0, (rd_T27 ((rd_T27 x136002_1 t152).f2) t159).f1, (rd_T27 ((rd_T27 x136002_1 t152).f2) t159).f2 ++ [(⟨(rdOf ByteArray.empty y128 (ji16)), x141001_2, ([] : List (S27))⟩ : S27)]⟩ : S27)⟩ : S27) (Kd.R_mono (Kd.R_set (Kd.R_below HM1.out hB9) hcg2 (by decide) _ _) (fun k hk => .inl hk)) hseg.1
                   have hS1 := Kd.H_back (Kd.H_grown (Kd.H_more (okg := fun k_ => (w61.heap.size ≤ k_ ∨ some k_ = u141001.ownBlock)) (Kd.H_below HH.out hB9) (fun k hk => by
                    rcases hk with hk | hk
                    ·exact ⟨Kd.fresh' (Kd.R_lt HO_3.out) k hk, Kd.fresh' (Kd.R_lt HO_136001.out) k hk, Kd.freshB BK127.out k hk, Kd.freshB BK135.out k hk⟩
                    ·have z := HO_141001.out.1 k hk.symm
                     exact ⟨z.1, z.2, fun he => Kd.R_ne HO_141001.out BK127.out (by decide) (by rw [← he]; exact hk), fun he => Kd.R_ne HO_141001.out BK135.out (by decide) (by rw [← he]; exact hk)⟩)) hseg.2 (fun k hk => .inl (by cases hk; exact hog2))) (x' := (⟨(rd_T27 x136002_1 t152).f0, (rd_T27 x136002_1 t152).f1, (rd_T27 x136002_1 t152).f2.set t159.toNat (⟨(rd_T27 ((rd_T27 x136002_1 t152).f2) t159).f0, (rd_T27 ((rd_T27 x136002_1 t152).f2) t159).f1, (rd_T27 ((rd_T27 x136002_1 t152).f2) t159).f2 ++ [(⟨(rdOf ByteArray.empty y128 (ji16)), x141001_2, ([] : List (S27))⟩ : S27)]⟩ : S27)⟩ : S27)) (by have z := hM1; rw [show (⟨g2, 0, none⟩ : Addr) = ad162 from HG2.out.symm] at z; exact z) (fun k hk => hk)
                   have hkids : Kd.S k27 27 (wk.setCell ⟨(ad162.add ((t159).toNat * 3)).block, (ad162.add ((t159).toNat * 3)).off + 2, none⟩ (.slice A92 (((rd_T27 ((rd_T27 x136002_1 t152).f2) t159).f2).length + 1) c92)) w.heap.size (fun k_ => (some k_ ≠ (.slice (some ad131) y128.length co6 : Value).ownBlock ∧ some k_ ≠ (.slice Ao9 y132.length co9 : Value).ownBlock ∧ k_ ≠ gb127 ∧ k_ ≠ gb135)) (.slice (some ad155) x136002_1.length co55) (x136002_1.set (t152).toNat (⟨(rd_T27 x136002_1 t152).f0, (rd_T27 x136002_1 t152).f1, (rd_T27 x136002_1 t152).f2.set t159.toNat (⟨(rd_T27 ((rd_T27 x136002_1 t152).f2) t159).f0, (rd_T27 ((rd_T27 x136002_1 t152).f2) t159).f1, (rd_T27 ((rd_T27 x136002_1 t152).f2) t159).f2 ++ [(⟨(rdOf ByteArray.empty y128 (ji16)), x141001_2, ([] : List (S27))⟩ : S27)]⟩ : S27)⟩ : S27)) := by
                    have z := hS1
                    rw [HG1.out, HG2.out, add_at]
                    simp only [Nat.zero_add]
                    exact z
                   have hset : (wk.setCell ⟨(ad162.add ((t159).toNat * 3)).block, (ad162.add ((t159).toNat * 3)).off + 2, none⟩ (.slice A92 (((rd_T27 ((rd_T27 x136002_1 t152).f2) t159).f2).length + 1) c92)) = wk.setCell ⟨g2, t159.toNat * 3 + 2, none⟩ (.slice A92 (((rd_T27 ((rd_T27 x136002_1 t152).f2) t159).f2).length + 1) c92) := by rw [HG2.out, add_at]; simp only [Nat.zero_add]
                   have hng : g ≠ g2 := fun he => by have z := IsS63.own_ne HI0.out HINN.out (by decide); rw [he] at z; exact z rfl
                   have h3 := Aside0.mk (show Kd.string.R 9 (wk.setCell ⟨g2, t159.toNat * 3 + 2, none⟩ (.slice A92 (((rd_T27 ((rd_T27 x136002_1 t152).f2) t159).f2).length + 1) c92)) w.heap.size (fun k_ => some k_ ≠ (.slice Ao9 y132.length co9 : Value).ownBlock) (.slice (some ad131) y128.length co6) y128 from Kd.R_mono (Kd.R_far (p := ⟨g2, t159.toNat * 3 + 2, none⟩) (Kd.R_far1 (Kd.R_below HO_3.out hB9) rfl hf.1) (fun k hk => hk.2) _) (fun k hk => hk.1.1))
                   have h6 := Aside0.mk (show Kd.string.R 9 (wk.setCell ⟨g2, t159.toNat * 3 + 2, none⟩ (.slice A92 (((rd_T27 ((rd_T27 x136002_1 t152).f2) t159).f2).length + 1) c92)) w.heap.size (fun k_ => some k_ ≠ (.slice (some ad131) y128.length co6 : Value).ownBlock) (.slice Ao9 y132.length co9) y132 from Kd.R_mono (Kd.R_far (p := ⟨g2, t159.toNat * 3 + 2, none⟩) (Kd.R_far1 (Kd.R_below HO_136001.out hB9) rfl hf.2.1) (fun k hk => hk.2) _) (fun k hk => hk.1.1))
                   have b7 := Aside0.mk (blk_far ((hB9.block _ (blk_lt BK127.out)).trans BK127.out) (p := ⟨g2, t159.toNat * 3 + 2, none⟩) (fun he => hf.2.2.1 he.symm) (.slice A92 (((rd_T27 ((rd_T27 x136002_1 t152).f2) t159).f2).length + 1) c92))
                   have b5 := Aside0.mk (blk_far ((hB9.block _ (blk_lt BK135.out)).trans BK135.out) (p := ⟨g2, t159.toNat * 3 + 2, none⟩) (fun he => hf.2.2.2 he.symm) (.slice A92 (((rd_T27 ((rd_T27 x136002_1 t152).f2) t159).f2).length + 1) c92))
                   have i0 := Aside0.mk (IsS63.far (IsS63.below HI0.out hB9) (p := ⟨g2, t159.toNat * 3 + 2, none⟩) hng (.slice A92 (((rd_T27 ((rd_T27 x136002_1 t152).f2) t159).f2).length + 1) c92))
                   have hk_ := Aside0.mk (keep_far (HK.out.trans (KeepBut.of_below hB9 g none) (.inl rfl)) (p := ⟨g2, t159.toNat * 3 + 2, none⟩) HW1 (.slice A92 (((rd_T27 ((rd_T27 x136002_1 t152).f2) t159).f2).length + 1) c92))
                   have hb_ := Aside0.mk (below_set (j := t159.toNat * 3 + 2) (v := (.slice A92 (((rd_T27 ((rd_T27 x136002_1 t152).f2) t159).f2).length + 1) c92)) (below_step HB.out hB9) (Nat.le_trans HW0.out HW1))
                   rw [← hset] at h3 h6 b7 b5 i0 hk_ hb_
                   have hs_ := Aside0.mk hkids
                   clear hkids hseg hset hM' hRK hM1 hS1
                   generalize hz_ : (wk.setCell ⟨(ad162.add ((t159).toNat * 3)).block, (ad162.add ((t159).toNat * 3)).off + 2, none⟩ (.slice A92 (((rd_T27 ((rd_T27 x136002_1 t152).f2) t159).f2).length + 1) c92)) = wz at h3 h6 b7 b5 i0 hk_ hb_ hs_ ⊢
                   clear hz_
                   go_roundg k2
                   case measure => have := HK1.out; have := HK2.out; omega
                   case rel => exact ⟨wrap64 (x5_1 + 1), t160, t161, _, .slice (some ad155) x136002_1.length co55, z_3, H', ⟨z_36 HK1.out HK2.out⟩, h3, h6, ⟨Kd.S_mono hs_.out (fun _ hk => ⟨hk.1, hk.2.1, hk.2.2.1, hk.2.2.2⟩)⟩, b7, b5, i0, hk_, hb_⟩
                 ·rw [if_neg c50] at H
                  exact absurd H (by simp)
                ·rw [if_neg c49] at H
                 exact absurd H (by simp)
               ·replace c47 := Bool.eq_false_iff.mpr c47
                subst c47
                have H1 : (if ((rd_T27 x136002_1 t152).f2).length < 2199023255552 then (spec_l22Draw.l0 k2 y128 (wrap64 (x5_1 + 1)) s0_0 t157 t158 (rdOf ByteArray.empty y128 0) y132 (x136002_1.set t152.toNat ⟨(rd_T27 x136002_1 t152).f0, (rd_T27 x136002_1 t152).f1, (rd_T27 x136002_1 t152).f2 ++ [(⟨(rdOf ByteArray.empty y128 (ji16)), x141001_2, ([] : List (S27))⟩ : S27)]⟩)) else (none)) = some (r1, r2, r3, r4, r5) := by rw [if_neg (show ¬ (false = true) by decide)] at H; exact H
                clear H
                have H := H1
                clear H1
                rcases Nat.lt_or_ge ((rd_T27 x136002_1 t152).f2).length 2199023255552 with cL | cL
                rotate_left
                ·rw [if_neg (by omega)] at H; exact absurd H (by simp)
                rw [if_pos cL] at H
                have HLIM := Aside0.mk cL
                clear cL
                have H' := Aside0.mk H
                clear H
                have hnb62 := NB135_127.out
                have hnc62 := NB127_135.out
                have hnb63 := NB135_140.out
                have hnc63 := NB140_135.out
                have hnb64 := NB135_0.out
                have hnc64 := NB0_135.out
                have hcz65_0 : wr.cell? ⟨gb135, 0, none⟩ = some (.string (rdOf ByteArray.empty y128 0)) := (blk_cell BK135.out 0).trans rfl
                have hcz65_1 : wr.cell? ⟨gb135, 1, none⟩ = some (.slice Ao9 y132.length co9) := (blk_cell BK135.out 1).trans rfl
                have hcz65_2 : wr.cell? ⟨gb135, 2, none⟩ = some (u136002) := (blk_cell BK135.out 2).trans rfl
                have hfz65_0 := blk_frozen BK135.out 0
                have hfz65_1 := blk_frozen BK135.out 1
                have hfz65_2 := blk_frozen BK135.out 2
                obtain ⟨Ao66, co66, eo66⟩ := Kd.S_slice HO_136002.out
                subst eo66
                try go_wp2_with (first | (go_at_call 49; (with_reducible refine (spec_l1Once.calls g s0_0 t142 t143 2 true t150 t151 w0 _ ?side1 ?side2 A40.out).mono ?_); (case side1 => exact z_29 HI0.out NB0_127.out NB0_135.out NB0_140.out); (case side2 => exact z_30 HB.out HI0.out GE127.out GE135.out GE140.out); rintro e w67 ⟨rfl, hi, hb, hk⟩; have n0_ := Aside0.mk (Kd.R_mono (Kd.R_keep (IsS63.apart (show IsS63 w0 _ g s0_0 t142 t143 from by repeat (first | (with_reducible first | exact HI0.out | apply IsS63.alloc | apply IsS63.drewN | apply IsS63.drew | apply IsS63.set_1 | apply IsS63.set_2 | refine IsS63.far ?_ NB0_127.out _ | refine IsS63.far ?_ NB0_135.out _ | refine IsS63.far ?_ NB0_140.out _) | exact HI0.out)) (z_17 HO_3.out) (by decide)) hk (fun _ h => h.2)) (fun _ h => h.1)); have n1_ := Aside0.mk (Kd.R_mono (Kd.R_keep (IsS63.apart (show IsS63 w0 _ g s0_0 t142 t143 from by repeat (first | (with_reducible first | exact HI0.out | apply IsS63.alloc | apply IsS63.drewN | apply IsS63.drew | apply IsS63.set_1 | apply IsS63.set_2 | refine IsS63.far ?_ NB0_127.out _ | refine IsS63.far ?_ NB0_135.out _ | refine IsS63.far ?_ NB0_140.out _) | exact HI0.out)) (z_17 HO_136001.out) (by decide)) hk (fun _ h => h.2)) (fun _ h => h.1)); have n2_ := Aside0.mk (Kd.S_mono (Kd.S_keep (IsS63.apartS (show IsS63 w0 _ g s0_0 t142 t143 from by repeat (first | (with_reducible first | exact HI0.out | apply IsS63.alloc | apply IsS63.drewN | apply IsS63.drew | apply IsS63.set_1 | apply IsS63.set_2 | refine IsS63.far ?_ NB0_127.out _ | refine IsS63.far ?_ NB0_135.out _ | refine IsS63.far ?_ NB0_140.out _) | exact HI0.out)) (z_27 HO_136002.out) (by decide)) hk (fun _ h => h.2)) (fun _ h => h.1)); have n3_ := Aside0.mk (Kd.R_mono (Kd.R_keep (IsS63.apart (show IsS63 w0 _ g s0_0 t142 t143 from by repeat (first | (with_reducible first | exact HI0.out | apply IsS63.alloc | apply IsS63.drewN | apply IsS63.drew | apply IsS63.set_1 | apply IsS63.set_2 | refine IsS63.far ?_ NB0_127.out _ | refine IsS63.far ?_ NB0_135.out _ | refine IsS63.far ?_ NB0_140.out _) | exact HI0.out)) (z_17 HO_141001.out) (by decide)) hk (fun _ h => h.2)) (fun _ h => h.1)); have n4_ := Aside0.mk (KeepBut.blk hk (g' := gb127) (o := .cells #[.string (⟨#[]⟩ : ByteArray), .slice none 0 0, .slice none 0 0] 27 (0, 0)) (z_7 BK127.out) NB127_0.out (by simp)); have n5_ := Aside0.mk (KeepBut.blk hk (g' := gb135) (o := .cells #[.string (rdOf ByteArray.empty y128 0), .slice Ao9 y132.length co9, .slice Ao66 x136002_1.length co66] 27 (0, 0)) (z_7 BK135.out) NB135_0.out (by simp)); have n6_ := Aside0.mk (KeepBut.blk hk (g' := gb140) (o := .cells #[.string (rdOf ByteArray.empty y128 (ji16)), u141001, .slice none 0 0] 27 (0, 0)) (z_7 BK140.out) NB140_0.out (by simp)); have n7_ := Aside0.mk (KeepBut.trans (z_32 HK.out GW127.out GW135.out GW140.out) hk (.inl rfl)); have n8_ := Aside0.mk (hb); have n9_ := Aside0.mk (hi); clear HO_3; clear HO_136001; clear HO_136002; clear HO_141001; clear BK127; clear BK135; clear BK140; clear HK; clear HB; clear HI0; have HO_3 := n0_; have HO_136001 := n1_; have HO_136002 := n2_; have HO_141001 := n3_; have BK127 := n4_; have BK135 := n5_; have BK140 := n6_; have HK := n7_; have HB := n8_; have HI0 := n9_; clear n0_ n1_ n2_ n3_ n4_ n5_ n6_ n7_ n8_ n9_; (try clear hb); (try clear hb2); (try clear hk); (try clear hi)))
                have n0_ := Aside0.mk (Kd.R_drew HO_3.out)
                have n1_ := Aside0.mk (Kd.R_drew HO_136001.out)
                have n2_ := Aside0.mk (Kd.S_drew HO_136002.out)
                have n3_ := Aside0.mk (Kd.R_drew HO_141001.out)
                have n4_ := Aside0.mk (blk_drew BK127.out)
                have n5_ := Aside0.mk (blk_drew BK135.out)
                have n6_ := Aside0.mk (blk_drew BK140.out)
                have n7_ := Aside0.mk (IsS63.drew HI0.out)
                have n8_ := Aside0.mk (keep_drew HK.out)
                have n9_ := Aside0.mk (below_drew1 HB.out)
                clear HO_3
                clear HO_136001
                clear HO_136002
                clear HO_141001
                clear BK127
                clear BK135
                clear BK140
                clear HI0
                clear HK
                clear HB
                have HO_3 := n0_
                have HO_136001 := n1_
                have HO_136002 := n2_
                have HO_141001 := n3_
                have BK127 := n4_
                have BK135 := n5_
                have BK140 := n6_
                have HI0 := n7_
                have HK := n8_
                have HB := n9_
                clear n0_ n1_ n2_ n3_ n4_ n5_ n6_ n7_ n8_ n9_
                have p155 : 0 ≤ (t152 : Int) := of_decide_eq_true z_5
                have q155 : t152 < (x136002_1.length : Int) := of_decide_eq_true z_5
                obtain ⟨ad155, A155_1, c155_1, A155_2, c155_2, e155, hx155_0, hx155_1, hx155_2, hl155_1, hi155_1, hl155_2, hi155_2⟩ := at_T27 (Kd.S_reads' HO_136002.out).2.2 t152 p155 q155
                cases e155
                obtain ⟨ce155, hce155, hMe155, hcc155⟩ := Kd.S_get HO_136002.out z27 t152 p155 (z_39 HO_136002.out)
                obtain ⟨ve155_1, ve155_2, rfl, ge155_1, ge155_2⟩ := k27_openM hMe155
                have hv155_1 := hcc155 1 _ rfl
                rw [add_field _ _ 1 (by omega)] at hv155_1
                replace hv155_1 := Option.some.inj (hv155_1.symm.trans hx155_1)
                rw [hv155_1] at ge155_1
                have HL155_1 := Aside0.mk (show Kd.R Kd.string 9 _ _ _ _ ((rd_T27 x136002_1 t152).f1) from ge155_1)
                clear hv155_1 ge155_1
                have hv155_2 := hcc155 2 _ rfl
                rw [add_field _ _ 2 (by omega)] at hv155_2
                replace hv155_2 := Option.some.inj (hv155_2.symm.trans hx155_2)
                rw [hv155_2] at ge155_2
                have HL155_2 := Aside0.mk (show Kd.R k27 27 _ _ _ _ ((rd_T27 x136002_1 t152).f2) from ge155_2)
                clear hv155_2 ge155_2
                clear hcc155 hce155
                have HR155_1 := Aside0.mk hi155_1
                have HC155_1 := Aside0.mk hl155_1
                clear hi155_1 hl155_1
                have HR155_2 := Aside0.mk hi155_2
                have HC155_2 := Aside0.mk hl155_2
                clear hi155_2 hl155_2
                replace p155 := eq_true p155
                replace q155 := eq_true q155
                refine st_ 9 (fun w' => w'.cell? ⟨gb135, 0, none⟩ = some (.string (rdOf ByteArray.empty y128 0)) ∧ w'.cell? ⟨gb135, 1, none⟩ = some (.slice Ao9 y132.length co9) ∧ w'.cell? ⟨gb135, 2, none⟩ = some (.slice (some ad155) x136002_1.length co66) ∧ w'.cell? (ad155.add ((t152).toNat * 3)) = some (.string ((rd_T27 x136002_1 t152).f0)) ∧ w'.cell? ⟨(ad155.add ((t152).toNat * 3)).block, (ad155.add ((t152).toNat * 3)).off + 1, none⟩ = some (.slice A155_1 ((rd_T27 x136002_1 t152).f1).length c155_1) ∧ w'.cell? ⟨(ad155.add ((t152).toNat * 3)).block, (ad155.add ((t152).toNat * 3)).off + 2, none⟩ = some (.slice A155_2 ((rd_T27 x136002_1 t152).f2).length c155_2)) [] ⟨(blk_cell BK135.out 0).trans rfl, (blk_cell BK135.out 1).trans rfl, (blk_cell BK135.out 2).trans rfl, hx155_0, hx155_1, hx155_2⟩ (fun hHeld => ?_); refine with_tabW spec_l22Draw.tab12 spec_l22Draw.bits12 (fun HT_ HW_ => ?_)
                generalize w67.drew = w68 at HO_3 HO_136001 HO_136002 HO_141001 BK127 BK135 BK140 HI0 HK HB HL155_1 HL155_2 HR155_1 HR155_2 hx155_0 hx155_1 hx155_2 hHeld ⊢
                refine go_ ?_ [0, 2, 3, 1001, 1004, 5] ?_
                refine on_ 6 59 (fun K hK => ?_)
                refine gs_ Try.func47 #[.pointer (some ⟨g, 0, none⟩), .int .i64 (x136002_1.length : Int)] ?_
                with_reducible refine (spec_l1Below.calls g s0_0 t150 t151 (x136002_1.length : Int) t152 t153 t154 w0 _ ?side1 ?side2 A42.out).mono ?_
                (case side1 => exact z_29 HI0.out NB0_127.out NB0_135.out NB0_140.out)
                (case side2 => exact z_30 HB.out HI0.out GE127.out GE135.out GE140.out)
                rintro e w69 ⟨rfl, hi, hb, hk⟩
                have HS3_ := keep_cell hk (hHeld.2.2.2.1) (z_40 HI0.out HO_136002.out)
                have HS4_ := keep_cell hk (hHeld.2.2.2.2.1) (z_40 HI0.out HO_136002.out)
                have HS5_ := keep_cell hk (hHeld.2.2.2.2.2) (z_40 HI0.out HO_136002.out)
                refine ⟨_, rfl, ?_⟩
                replace HL155_1 := Aside0.mk (Kd.R_mono (Kd.R_keep (IsS63.apart HI0.out HL155_1.out (by decide)) hk (fun _ h => h.2)) (fun _ h => h.1))
                replace HL155_2 := Aside0.mk (Kd.R_mono (Kd.R_keep (IsS63.apart HI0.out HL155_2.out (by decide)) hk (fun _ h => h.2)) (fun _ h => h.1))
                have n0_ := Aside0.mk (Kd.R_mono (Kd.R_keep (IsS63.apart (show IsS63 w0 _ g s0_0 t150 t151 from by repeat (first | (with_reducible first | exact HI0.out | apply IsS63.alloc | apply IsS63.drewN | apply IsS63.drew | apply IsS63.set_1 | apply IsS63.set_2 | refine IsS63.far ?_ NB0_127.out _ | refine IsS63.far ?_ NB0_135.out _ | refine IsS63.far ?_ NB0_140.out _) | exact HI0.out)) (z_17 HO_3.out) (by decide)) hk (fun _ h => h.2)) (fun _ h => h.1))
                have n1_ := Aside0.mk (Kd.R_mono (Kd.R_keep (IsS63.apart (show IsS63 w0 _ g s0_0 t150 t151 from by repeat (first | (with_reducible first | exact HI0.out | apply IsS63.alloc | apply IsS63.drewN | apply IsS63.drew | apply IsS63.set_1 | apply IsS63.set_2 | refine IsS63.far ?_ NB0_127.out _ | refine IsS63.far ?_ NB0_135.out _ | refine IsS63.far ?_ NB0_140.out _) | exact HI0.out)) (z_17 HO_136001.out) (by decide)) hk (fun _ h => h.2)) (fun _ h => h.1))
                have n2_ := Aside0.mk (Kd.S_mono (Kd.S_keep (IsS63.apartS (show IsS63 w0 _ g s0_0 t150 t151 from by repeat (first | (with_reducible first | exact HI0.out | apply IsS63.alloc | apply IsS63.drewN | apply IsS63.drew | apply IsS63.set_1 | apply IsS63.set_2 | refine IsS63.far ?_ NB0_127.out _ | refine IsS63.far ?_ NB0_135.out _ | refine IsS63.far ?_ NB0_140.out _) | exact HI0.out)) (z_27 HO_136002.out) (by decide)) hk (fun _ h => h.2)) (fun _ h => h.1))
                have n3_ := Aside0.mk (Kd.R_mono (Kd.R_keep (IsS63.apart (show IsS63 w0 _ g s0_0 t150 t151 from by repeat (first | (with_reducible first | exact HI0.out | apply IsS63.alloc | apply IsS63.drewN | apply IsS63.drew | apply IsS63.set_1 | apply IsS63.set_2 | refine IsS63.far ?_ NB0_127.out _ | refine IsS63.far ?_ NB0_135.out _ | refine IsS63.far ?_ NB0_140.out _) | exact HI0.out)) (z_17 HO_141001.out) (by decide)) hk (fun _ h => h.2)) (fun _ h => h.1))
                have n4_ := Aside0.mk (KeepBut.blk hk (g' := gb127) (o := .cells #[.string (⟨#[]⟩ : ByteArray), .slice none 0 0, .slice none 0 0] 27 (0, 0)) (z_7 BK127.out) NB127_0.out (by simp))
                have n5_ := Aside0.mk (KeepBut.blk hk (g' := gb135) (o := .cells #[.string (rdOf ByteArray.empty y128 0), .slice Ao9 y132.length co9, .slice (some ad155) x136002_1.length co66] 27 (0, 0)) (z_7 BK135.out) NB135_0.out (by simp))
                have n6_ := Aside0.mk (KeepBut.blk hk (g' := gb140) (o := .cells #[.string (rdOf ByteArray.empty y128 (ji16)), u141001, .slice none 0 0] 27 (0, 0)) (z_7 BK140.out) NB140_0.out (by simp))
                have n7_ := Aside0.mk (KeepBut.trans (z_32 HK.out GW127.out GW135.out GW140.out) hk (.inl rfl))
                have n8_ := Aside0.mk (hb)
                have n9_ := Aside0.mk (hi)
                clear HO_3
                clear HO_136001
                clear HO_136002
                clear HO_141001
                clear BK127
                clear BK135
                clear BK140
                clear HK
                clear HB
                clear HI0
                have HO_3 := n0_
                have HO_136001 := n1_
                have HO_136002 := n2_
                have HO_141001 := n3_
                have BK127 := n4_
                have BK135 := n5_
                have BK140 := n6_
                have HK := n7_
                have HB := n8_
                have HI0 := n9_
                clear n0_ n1_ n2_ n3_ n4_ n5_ n6_ n7_ n8_ n9_
                (try clear hb)
                (try clear hb2)
                (try clear hk)
                (try clear hi)
                refine hK.out _ _ ⟨(blk_cell BK135.out 0).trans rfl, (blk_cell BK135.out 1).trans rfl, (blk_cell BK135.out 2).trans rfl, HS3_, HS4_, HS5_⟩ (fun hHeld => ?_)
                clear hK K
                refine nm_ ?_
                refine go_ ?_ [7, 8] ?_
                refine done_ (done_of HT_.out (by kernel_rfl)) ?_
                try go_wp2_with (first | (go_at_call 49; (with_reducible refine (spec_l1Once.calls g s0_0 t153 t154 3 false t157 t158 w0 _ ?side1 ?side2 A46.out).mono ?_); (case side1 => exact z_29 HI0.out NB0_127.out NB0_135.out NB0_140.out); (case side2 => exact z_30 HB.out HI0.out GE127.out GE135.out GE140.out); rintro e w70 ⟨rfl, hi, hb, hk⟩; have HT5_ := keep_cell hk HS5_ (z_40 HI0.out HO_136002.out); have n0_ := Aside0.mk (Kd.R_mono (Kd.R_keep (IsS63.apart (show IsS63 w0 _ g s0_0 t153 t154 from by repeat (first | (with_reducible first | exact HI0.out | apply IsS63.alloc | apply IsS63.drewN | apply IsS63.drew | apply IsS63.set_1 | apply IsS63.set_2 | refine IsS63.far ?_ NB0_127.out _ | refine IsS63.far ?_ NB0_135.out _ | refine IsS63.far ?_ NB0_140.out _) | exact HI0.out)) (z_17 HO_3.out) (by decide)) hk (fun _ h => h.2)) (fun _ h => h.1)); have n1_ := Aside0.mk (Kd.R_mono (Kd.R_keep (IsS63.apart (show IsS63 w0 _ g s0_0 t153 t154 from by repeat (first | (with_reducible first | exact HI0.out | apply IsS63.alloc | apply IsS63.drewN | apply IsS63.drew | apply IsS63.set_1 | apply IsS63.set_2 | refine IsS63.far ?_ NB0_127.out _ | refine IsS63.far ?_ NB0_135.out _ | refine IsS63.far ?_ NB0_140.out _) | exact HI0.out)) (z_17 HO_136001.out) (by decide)) hk (fun _ h => h.2)) (fun _ h => h.1)); have n2_ := Aside0.mk (Kd.S_mono (Kd.S_keep (IsS63.apartS (show IsS63 w0 _ g s0_0 t153 t154 from by repeat (first | (with_reducible first | exact HI0.out | apply IsS63.alloc | apply IsS63.drewN | apply IsS63.drew | apply IsS63.set_1 | apply IsS63.set_2 | refine IsS63.far ?_ NB0_127.out _ | refine IsS63.far ?_ NB0_135.out _ | refine IsS63.far ?_ NB0_140.out _) | exact HI0.out)) (z_27 HO_136002.out) (by decide)) hk (fun _ h => h.2)) (fun _ h => h.1)); have n3_ := Aside0.mk (Kd.R_mono (Kd.R_keep (IsS63.apart (show IsS63 w0 _ g s0_0 t153 t154 from by repeat (first | (with_reducible first | exact HI0.out | apply IsS63.alloc | apply IsS63.drewN | apply IsS63.drew | apply IsS63.set_1 | apply IsS63.set_2 | refine IsS63.far ?_ NB0_127.out _ | refine IsS63.far ?_ NB0_135.out _ | refine IsS63.far ?_ NB0_140.out _) | exact HI0.out)) (z_17 HO_141001.out) (by decide)) hk (fun _ h => h.2)) (fun _ h => h.1)); have n4_ := Aside0.mk (KeepBut.blk hk (g' := gb127) (o := .cells #[.string (⟨#[]⟩ : ByteArray), .slice none 0 0, .slice none 0 0] 27 (0, 0)) (z_7 BK127.out) NB127_0.out (by simp)); have n5_ := Aside0.mk (KeepBut.blk hk (g' := gb135) (o := .cells #[.string (rdOf ByteArray.empty y128 0), .slice Ao9 y132.length co9, .slice (some ad155) x136002_1.length co66] 27 (0, 0)) (z_7 BK135.out) NB135_0.out (by simp)); have n6_ := Aside0.mk (KeepBut.blk hk (g' := gb140) (o := .cells #[.string (rdOf ByteArray.empty y128 (ji16)), u141001, .slice none 0 0] 27 (0, 0)) (z_7 BK140.out) NB140_0.out (by simp)); have n7_ := Aside0.mk (Kd.R_mono (Kd.R_keep (IsS63.apart (show IsS63 w0 _ g s0_0 t153 t154 from by repeat (first | (with_reducible first | exact HI0.out | apply IsS63.alloc | apply IsS63.drewN | apply IsS63.drew | apply IsS63.set_1 | apply IsS63.set_2 | refine IsS63.far ?_ NB0_127.out _ | refine IsS63.far ?_ NB0_135.out _ | refine IsS63.far ?_ NB0_140.out _) | exact HI0.out)) (z_17 HL155_1.out) (by decide)) hk (fun _ h => h.2)) (fun _ h => h.1)); have n8_ := Aside0.mk (Kd.R_mono (Kd.R_keep (IsS63.apart (show IsS63 w0 _ g s0_0 t153 t154 from by repeat (first | (with_reducible first | exact HI0.out | apply IsS63.alloc | apply IsS63.drewN | apply IsS63.drew | apply IsS63.set_1 | apply IsS63.set_2 | refine IsS63.far ?_ NB0_127.out _ | refine IsS63.far ?_ NB0_135.out _ | refine IsS63.far ?_ NB0_140.out _) | exact HI0.out)) (z_17 HL155_2.out) (by decide)) hk (fun _ h => h.2)) (fun _ h => h.1)); have n9_ := Aside0.mk (KeepBut.trans (z_32 HK.out GW127.out GW135.out GW140.out) hk (.inl rfl)); have n10_ := Aside0.mk (hb); have n11_ := Aside0.mk (hi); clear HO_3; clear HO_136001; clear HO_136002; clear HO_141001; clear BK127; clear BK135; clear BK140; clear HL155_1; clear HL155_2; clear HK; clear HB; clear HI0; have HO_3 := n0_; have HO_136001 := n1_; have HO_136002 := n2_; have HO_141001 := n3_; have BK127 := n4_; have BK135 := n5_; have BK140 := n6_; have HL155_1 := n7_; have HL155_2 := n8_; have HK := n9_; have HB := n10_; have HI0 := n11_; clear n0_ n1_ n2_ n3_ n4_ n5_ n6_ n7_ n8_ n9_ n10_ n11_; (try clear hb); (try clear hb2); (try clear hk); (try clear hi)))
                have HS' : Kd.S k27 27 w70 w.heap.size (fun k_ => (some k_ ≠ (.slice (some ad131) y128.length co6 : Value).ownBlock ∧ some k_ ≠ (.slice Ao9 y132.length co9 : Value).ownBlock ∧ k_ ≠ gb127 ∧ k_ ≠ gb135) ∧ ¬ (w70.heap.size ≤ k_ ∨ some k_ = u141001.ownBlock)) (.slice (some ad155) x136002_1.length co66) x136002_1 := Kd.S_mono (Kd.S_bound HO_136002.out) (fun k hk => ⟨⟨hk.1.1, hk.1.2.1, hk.1.2.2.2.1, hk.1.2.2.2.2.1⟩, fun h_ => h_.elim (fun h2 => by have := hk.2.2.1; omega) (fun h2 => hk.1.2.2.1 h2)⟩)
                obtain ⟨g1, hg1⟩ := Kd.R_head (Kd.S_R HS')
                have HG1 := Aside0.mk hg1
                rw [hg1] at HS'
                clear hg1
                obtain ⟨oki, ce, hcl, hMe, hcc, hfr, hoki, hH⟩ := Kd.S_elem HS' z27 t152 (of_decide_eq_true c43b0) (of_decide_eq_true c44b0)
                obtain ⟨ve1, ve2, rfl, hm1, hm2⟩ := k27_openM hMe
                have HS5g : w70.cell? ⟨g1, t152.toNat * 3 + 2, none⟩ = some (.slice A155_2 (((rd_T27 x136002_1 t152).f2).length) c155_2) := by
                 have z := HT5_
                 rw [HG1.out, add_at, Nat.zero_add] at z
                 exact z
                have hv2 : ve2 = .slice A155_2 (((rd_T27 x136002_1 t152).f2).length) c155_2 := Option.some.inj ((hcc 2 _ rfl).symm.trans HS5g)
                subst hv2
                have HIN := Aside0.mk (show k27.R 27 w70 w.heap.size oki (.slice A155_2 (((rd_T27 x136002_1 t152).f2).length) c155_2) (((rd_T27 x136002_1 t152).f2)) from hm2)
                have HM1 := Aside0.mk hm1
                have HCC := Aside0.mk hcc
                have HFR := Aside0.mk hfr
                have HOKI := Aside0.mk hoki
                have HH := Aside0.mk hH
                clear hm1 hm2 hcc hfr hoki hH HS5g HS' hcl hMe
                obtain ⟨RS, hRl, hRn, hRM, hRC⟩ := raws HIN.out
                refine st_ 13 (fun w' => w'.cell? ⟨gb140, 0, none⟩ = some (.string (rdOf ByteArray.empty y128 (ji16))) ∧ w'.cell? ⟨gb140, 1, none⟩ = some (u141001) ∧ w'.cell? ⟨gb140, 2, none⟩ = some (.slice none 0 0) ∧ w'.cell? ⟨(ad155.add ((t152).toNat * 3)).block, (ad155.add ((t152).toNat * 3)).off + 2, none⟩ = some (.slice A155_2 ((rd_T27 x136002_1 t152).f2).length c155_2)) [12] ⟨(blk_cell BK140.out 0).trans rfl, (blk_cell BK140.out 1).trans rfl, (blk_cell BK140.out 2).trans rfl, HT5_⟩ (fun hHeld => ?_); refine with_tabW spec_l22Draw.tab15 spec_l22Draw.bits15 (fun HT_ HW_ => ?_)
                have hBd : Below w70.heap.size w70 w70.drew := below_drew1 (Below.refl _ _)
                generalize w70.drew = wd at hBd hHeld ⊢
                refine go_ ?_ [0, 2, 3, 4, 1007, 1005] ?_
                have hRC3 : (Kd.raw 3).C wd A155_2 (((rd_T27 x136002_1 t152).f2).length) RS := Kd.C_below hRC hBd
                have hK1 : ∀ u ∈ ([.string (rdOf ByteArray.empty y128 (ji16)), u141001, .slice none 0 0] : List Value), u.oneCell' = true := by rw [show u141001 = _ from (Kd.R_slice HO_141001.out).choose_spec.choose_spec]; simp [Value.oneCell']
                have hB0 : Below wd.heap.size wd wd := Below.refl _ _
                have hlim : (([] : List (List Value)).length + ((rd_T27 x136002_1 t152).f2).length) * 64 ≤ 140737488355328 := by have := HLIM.out; simp only [List.length_nil]; omega
                have hlim2 : (RS.length + 1) * 64 ≤ 140737488355328 := by have := HLIM.out; rw [hRl]; omega
                have hSS : ∀ w', Below wd.heap.size wd w' → w'.cell? ⟨gb140, 0, none⟩ = some (.string (rdOf ByteArray.empty y128 (ji16))) ∧ w'.cell? ⟨gb140, 1, none⟩ = some (u141001) ∧ w'.cell? ⟨gb140, 2, none⟩ = some (.slice none 0 0) ∧ w'.cell? ⟨(ad155.add ((t152).toNat * 3)).block, (ad155.add ((t152).toNat * 3)).off + 2, none⟩ = some (.slice A155_2 (((rd_T27 x136002_1 t152).f2).length) c155_2) := fun w' hb => ⟨(hb.cell (World.block_lt_of_cell? wd _ hHeld.1)).trans hHeld.1, (hb.cell (World.block_lt_of_cell? wd _ hHeld.2.1)).trans hHeld.2.1, (hb.cell (World.block_lt_of_cell? wd _ hHeld.2.2.1)).trans hHeld.2.2.1, (hb.cell (World.block_lt_of_cell? wd _ hHeld.2.2.2)).trans hHeld.2.2.2⟩
                refine join_ (σ := Value × Value × Value) 4 (bz 13 511) (fun s_ => [(84, s_.1), (89, s_.2.1), (91, s_.2.2)]) (fun s_ w' => Below wd.heap.size wd w' ∧ (Kd.raw 3).R 27 w' wd.heap.size (fun k => some k ≠ s_.2.2.ownBlock) s_.2.1 RS ∧ (Kd.raw 3).R 27 w' wd.heap.size (fun _ => True) s_.2.2 [[.string (rdOf ByteArray.empty y128 (ji16)), u141001, .slice none 0 0]]) ?_ ?_
                rotate_left
                ·intro hCont
                 refine two_ (i := 1) (j := 8) (Ni := some 84) (Nj := some 91) (bz 13 191) (bz 13 445) rfl rfl rfl rfl (two_of HT_.out (by kernel_rfl)) (by decide) (by decide) (fun K hK => ?_) (fun K hK => ?_)
                 ·refine Kd.R_lit_step (Kd.raw 3) (w0 := wd) wd.heap.size 27 (by rfl) (N := 84) rfl (xs := ([] : List (List Value))) (inner := []) (ok := fun _ => True) (okp := fun _ => False) ?hra (Reps.none _ _) (fun _ h => h.elim) trivial hB0 hB0.size (by simp) ?_
                  (case hra => first | (go_simp; done) | (go_simp; rfl))
                  intro v84 wa ho84 hba hga hn84
                  refine hK.out _ _ (hSS _ hba) (fun hHeld => ?_)
                  clear hK K
                  refine nm_ ?_
                  refine two_ (i := 6) (j := 8) (Ni := some 89) (Nj := some 91) (bz 13 255) (bz 13 447) rfl rfl rfl rfl (two_of HT_.out (by kernel_rfl)) (by decide) (by decide) (fun K hK => ?_) (fun K hK => ?_)
                  ·refine Kd.R_append_rows_step (Kd.raw 3) (Rr := (Kd.raw 3).K wd) (w0 := wd) wd.heap.size (by rfl) (.tmp 84) (.tmp 88) 25 27 (.agg #[(.string ⟨#[]⟩), (.slice none 0 0), (.slice none 0 0)]) 64 (by rfl) Try.underlying25 info27 rfl (by decide) (by decide) v84 [] RS A155_2 (((rd_T27 x136002_1 t152).f2).length) c155_2 (fun _ => True) (fun _ => False) (by rfl) (by rfl) ho84 (Kd.C_below hRC3 hba) (fun _ _ h => h) (fun _ h => h.elim) (fun _ _ => trivial) hba hba.size hlim ?_
                   intro v89 wb ho89 hbb hgb hat89
                   refine hK.out _ _ (hSS _ hbb) (fun hHeld => ?_)
                   clear hK K
                   refine nm_ ?_
                   refine on_ 8 91 (fun K hK => ?_)
                   refine Kd.R_lit_step (Kd.raw 3) (w0 := wd) wd.heap.size 27 (by rfl) (N := 91) rfl (xs := [[.string (rdOf ByteArray.empty y128 (ji16)), u141001, .slice none 0 0]]) (inner := [.string (rdOf ByteArray.empty y128 (ji16)), u141001, .slice none 0 0]) (ok := fun _ => True) (okp := fun _ => False) ?hrc (raw_one _ _ _ _ rfl hK1) (fun _ h => h.elim) trivial hbb hbb.size (by simp) ?_
                   (case hrc => first | (go_simp; done) | (go_simp; rfl))
                   intro v91 wc_ ho91 hbc hgc hn91
                   refine hK.out _ _ (hSS _ hbc) (fun hHeld => ?_)
                   clear hK K
                   refine nm_ ?_
                   have hne : ∀ k, v89.ownBlock = some k → some k ≠ v91.ownBlock := fun k hk he => by obtain ⟨b_, e_, l_⟩ := hn91; rw [e_] at he; cases he; have := Kd.R_lt ho89 _ hk; omega
                   exact hCont (v84, v89, v91) _ ⟨hbc, raw_ok (raw_grown ho89 hgc (by simp)) hne, ho91⟩
                  ·refine Kd.R_lit_step (Kd.raw 3) (w0 := wd) wd.heap.size 27 (by rfl) (N := 91) rfl (xs := [[.string (rdOf ByteArray.empty y128 (ji16)), u141001, .slice none 0 0]]) (inner := [.string (rdOf ByteArray.empty y128 (ji16)), u141001, .slice none 0 0]) (ok := fun _ => True) (okp := fun _ => False) ?hrb (raw_one _ _ _ _ rfl hK1) (fun _ h => h.elim) trivial hba hba.size (by simp) ?_
                   (case hrb => first | (go_simp; done) | (go_simp; rfl))
                   intro v91 wb ho91 hbb hgb hn91
                   refine hK.out _ _ (hSS _ hbb) (fun hHeld => ?_)
                   clear hK K
                   refine nm_ ?_
                   refine on_ 6 89 (fun K hK => ?_)
                   have ho84' := raw_grown ho84 hgb (by simp)
                   have hne4 : ∀ k, v91.ownBlock = some k → some k ≠ v84.ownBlock := fun k hk he => by obtain ⟨b_, e_, l_⟩ := hn91; rw [e_] at hk; cases hk; have := Kd.R_lt ho84 _ he.symm; omega
                   clear ho84
                   have ho84 := ho84'
                   clear ho84'
                   refine Kd.R_append_rows_step (Kd.raw 3) (Rr := (Kd.raw 3).K wd) (w0 := wd) wd.heap.size (by rfl) (.tmp 84) (.tmp 88) 25 27 (.agg #[(.string ⟨#[]⟩), (.slice none 0 0), (.slice none 0 0)]) 64 (by rfl) Try.underlying25 info27 rfl (by decide) (by decide) v84 [] RS A155_2 (((rd_T27 x136002_1 t152).f2).length) c155_2 (fun _ => True) (fun _ => False) (by rfl) (by rfl) ho84 (Kd.C_below hRC3 hbb) (fun _ _ h => h) (fun _ h => h.elim) (fun _ _ => trivial) hbb hbb.size hlim ?_
                   intro v89 wc_ ho89 hbc hgc hat89
                   refine hK.out _ _ (hSS _ hbc) (fun hHeld => ?_)
                   clear hK K
                   refine nm_ ?_
                   have hne : ∀ k, v89.ownBlock = some k → some k ≠ v91.ownBlock := by
                    intro k hk he
                    rcases hat89 with h_ | ⟨b_, e_, l_⟩
                    ·exact hne4 k he.symm z_41
                    ·rw [e_] at hk; cases hk; have := Kd.R_lt ho91 _ he.symm; omega
                   exact hCont (v84, v89, v91) _ ⟨hbc, raw_ok ho89 hne, raw_grown ho91 hgc hne4⟩
                 ·refine Kd.R_lit_step (Kd.raw 3) (w0 := wd) wd.heap.size 27 (by rfl) (N := 91) rfl (xs := [[.string (rdOf ByteArray.empty y128 (ji16)), u141001, .slice none 0 0]]) (inner := [.string (rdOf ByteArray.empty y128 (ji16)), u141001, .slice none 0 0]) (ok := fun _ => True) (okp := fun _ => False) ?hra (raw_one _ _ _ _ rfl hK1) (fun _ h => h.elim) trivial hB0 hB0.size (by simp) ?_
                  (case hra => first | (go_simp; done) | (go_simp; rfl))
                  intro v91 wa ho91 hba hga hn91
                  refine hK.out _ _ (hSS _ hba) (fun hHeld => ?_)
                  clear hK K
                  refine nm_ ?_
                  refine on_ 1 84 (fun K hK => ?_)
                  refine Kd.R_lit_step (Kd.raw 3) (w0 := wd) wd.heap.size 27 (by rfl) (N := 84) rfl (xs := ([] : List (List Value))) (inner := []) (ok := fun _ => True) (okp := fun _ => False) ?hrb (Reps.none _ _) (fun _ h => h.elim) trivial hba hba.size (by simp) ?_
                  (case hrb => first | (go_simp; done) | (go_simp; rfl))
                  intro v84 wb ho84 hbb hgb hn84
                  refine hK.out _ _ (hSS _ hbb) (fun hHeld => ?_)
                  clear hK K
                  refine nm_ ?_
                  refine on_ 6 89 (fun K hK => ?_)
                  have ho91' := raw_grown ho91 hgb (by simp)
                  have hne4 : ∀ k, v91.ownBlock = some k → some k ≠ v84.ownBlock := fun k hk he => by obtain ⟨b_, e_, l_⟩ := hn84; rw [e_] at he; cases he; have := Kd.R_lt ho91 _ hk; omega
                  clear ho91
                  have ho91 := ho91'
                  clear ho91'
                  refine Kd.R_append_rows_step (Kd.raw 3) (Rr := (Kd.raw 3).K wd) (w0 := wd) wd.heap.size (by rfl) (.tmp 84) (.tmp 88) 25 27 (.agg #[(.string ⟨#[]⟩), (.slice none 0 0), (.slice none 0 0)]) 64 (by rfl) Try.underlying25 info27 rfl (by decide) (by decide) v84 [] RS A155_2 (((rd_T27 x136002_1 t152).f2).length) c155_2 (fun _ => True) (fun _ => False) (by rfl) (by rfl) ho84 (Kd.C_below hRC3 hbb) (fun _ _ h => h) (fun _ h => h.elim) (fun _ _ => trivial) hbb hbb.size hlim ?_
                  intro v89 wc_ ho89 hbc hgc hat89
                  refine hK.out _ _ (hSS _ hbc) (fun hHeld => ?_)
                  clear hK K
                  refine nm_ ?_
                  have hne : ∀ k, v89.ownBlock = some k → some k ≠ v91.ownBlock := by
                   intro k hk he
                   rcases hat89 with h_ | ⟨b_, e_, l_⟩
                   ·exact hne4 k he.symm z_41
                   ·rw [e_] at hk; cases hk; have := Kd.R_lt ho91 _ he.symm; omega
                  exact hCont (v84, v89, v91) _ ⟨hbc, raw_ok ho89 hne, raw_grown ho91 hgc hne4⟩
                ·rintro ⟨v84, v89, v91⟩ wj ⟨hbj, ho89, ho91⟩
                 obtain ⟨A91, c91, e91⟩ := Kd.R_slice ho91
                 subst e91
                 refine norm_ (a' := ?_) ?_ ?_
                 rotate_left
                 ·show putAll _ [(84, v84), (89, v89), (91, .slice A91 _ c91)] = _
                  simp only [putAll, Act.put, List.setIfInBounds_toArray, List.set_cons_zero, List.set_cons_succ, i64_w, i32_w]
                  rfl
                 refine on_ 9 92 (fun K hK => ?_)
                 refine Kd.R_append_rows_step (Kd.raw 3) (Rr := (Kd.raw 3).K wj) (w0 := wd) wd.heap.size (by rfl) (.tmp 89) (.tmp 91) 25 27 (.agg #[(.string ⟨#[]⟩), (.slice none 0 0), (.slice none 0 0)]) 64 (by rfl) Try.underlying25 info27 rfl (by decide) (by decide) v89 RS [[.string (rdOf ByteArray.empty y128 (ji16)), u141001, .slice none 0 0]] A91 1 c91 (fun _ => True) (fun _ => False) (by rfl) (by rfl) (raw_ok ho89 (fun _ _ => trivial)) (Kd.R_reads' ho91).2.2 (fun _ _ h => h) (fun _ h => h.elim) (fun _ _ => trivial) hbj hbj.size hlim2 ?_
                 intro v92 wk ho92 hbk hgk hat92
                 obtain ⟨A92, c92, e92⟩ := Kd.R_slice ho92
                 subst e92
                 refine hK.out _ _ (hSS _ hbk) (fun hHeld => ?_)
                 clear hK K
                 refine nm_ ?_
                 refine go_ ?_ [10, 11] ?_
                 refine last_ (i := 12) (N := none) (bz 13 8191) rfl rfl (one_of HT_.out (by kernel_rfl)) (by decide) (fun K hK => ?_)
                 have hs15 : wk.cell? ⟨(ad155.add ((t152).toNat * 3)).block, (ad155.add ((t152).toNat * 3)).off + 2, none⟩ = some (.slice A155_2 (((rd_T27 x136002_1 t152).f2).length) c155_2) := (hSS _ hbk).2.2.2
                 have hB9 : Below w70.heap.size w70 wk := hBd.trans (hbk.mono hBd.size)
                 have hfs15 : wk.frozen? ⟨(ad155.add ((t152).toNat * 3)).block, (ad155.add ((t152).toNat * 3)).off + 2, none⟩ = false := by
                  have z : w70.frozen? ⟨g1, t152.toNat * 3 + 2, none⟩ = false := HFR.out 2
                  rw [HG1.out, add_at]
                  simp only [Nat.zero_add]
                  have z2 : wk.frozen? ⟨g1, t152.toNat * 3 + 2, none⟩ = false := (hB9.frozen (p := ⟨g1, t152.toNat * 3 + 2, none⟩) (World.block_lt_of_cell? w70 ⟨g1, t152.toNat * 3 + 2, none⟩ (HCC.out 2 _ rfl))).trans z
                  exact z2
                 refine skip_ (w1 := ?_) (by rfl) rfl ?_ ?_
                 rotate_left
                 ·go_simp
                  rfl
                 refine hK.out _ _ ?_
                 clear hK K
                 refine done_ (done_of HT_.out (by kernel_rfl)) ?_
                 try go_wp2
                 have hsz : w.heap.size ≤ w70.heap.size := HK.out.1
                 have hg1 : some g1 = (Value.slice (some ad155) x136002_1.length co66).ownBlock := by rw [HG1.out]; rfl
                 have ho92' : (Kd.raw 3).R 27 wk wd.heap.size (fun _ => True) (.slice A92 (((rd_T27 x136002_1 t152).f2).length + 1) c92) (RS ++ [[.string (rdOf ByteArray.empty y128 (ji16)), u141001, .slice none 0 0]]) := by
                  have z := ho92
                  rw [show (RS ++ [[.string (rdOf ByteArray.empty y128 (ji16)), u141001, .slice none 0 0]]).length = ((rd_T27 x136002_1 t152).f2).length + 1 from by simp [hRl]] at z
                  exact z
                 have hRK : k27.R 27 wk w.heap.size (fun k_ => oki k_ ∨ (w70.heap.size ≤ k_ ∨ some k_ = u141001.ownBlock)) (.slice A92 (((rd_T27 x136002_1 t152).f2).length + 1) c92) ((rd_T27 x136002_1 t152).f2 ++ [(⟨(rdOf ByteArray.empty y128 (ji16)), x141001_2, ([] : List (S27))⟩ : S27)]) := by
                  refine of_raws (d := k27) (Kd.R_lower ho92' (Nat.le_trans hsz hBd.size)) (fun k hk => .inr (.inl (Nat.le_trans hBd.size (Kd.R_base ho92' k hk)))) (by simp [hRl]) (fun j x hx => ?_)
                  by_cases hj : j < (rd_T27 x136002_1 t152).f2.length
                  ·rw [List.getElem?_append_left hj] at hx
                   rw [List.getD_eq_getElem?_getD, List.getElem?_append_left (by rw [hRl]; exact hj), ← List.getD_eq_getElem?_getD]
                   refine k27.M_mono (fun k hk => ⟨.inl hk.1.1, fun he => ?_⟩) (Kd.M_below (k27.M_bound (hRM j x hx)) hB9)
                   have h1 := hk.2.2.1
                   have h2 := Kd.R_base ho92' k he.symm
                   have h3 := hBd.size
                   omega
                  ·have hj2 : j = (rd_T27 x136002_1 t152).f2.length := by
                    have := (List.getElem?_eq_some_iff.1 hx).1
                    simp at this
                    omega
                   subst hj2
                   rw [List.getElem?_append_right (Nat.le_refl _), Nat.sub_self] at hx
                   obtain rfl := Option.some.inj hx
                   rw [List.getD_eq_getElem?_getD, List.getElem?_append_right z_42, hRl, Nat.sub_self]
                   refine k27_mkM _ _ _ (⟨(rdOf ByteArray.empty y128 (ji16)), x141001_2, ([] : List (S27))⟩ : S27) (Kd.R_mono (Kd.R_tight rfl (Kd.R_below HO_141001.out hB9)) (fun k hk => ⟨.inr (.inr hk), fun he => ?_⟩)) (Kd.R_nil _ _ _ _ _)
                   have h1 := Kd.R_lt HO_141001.out k hk.symm
                   have h2 := Kd.R_base ho92' k he.symm
                   have h3 := hBd.size
                   omega
                 have hM' : k27.M wk w.heap.size (fun k_ => oki k_ ∨ (w70.heap.size ≤ k_ ∨ some k_ = u141001.ownBlock)) (⟨(rd_T27 x136002_1 t152).f0, (rd_T27 x136002_1 t152).f1, (rd_T27 x136002_1 t152).f2 ++ [(⟨(rdOf ByteArray.empty y128 (ji16)), x141001_2, ([] : List (S27))⟩ : S27)]⟩ : S27) [.string (rd_T27 x136002_1 t152).f0, ve1, (.slice A92 (((rd_T27 x136002_1 t152).f2).length + 1) c92)] := k27_mkM _ _ _ (⟨(rd_T27 x136002_1 t152).f0, (rd_T27 x136002_1 t152).f1, (rd_T27 x136002_1 t152).f2 ++ [(⟨(rdOf ByteArray.empty y128 (ji16)), x141001_2, ([] : List (S27))⟩ : S27)]⟩ : S27) (Kd.R_mono (Kd.R_below HM1.out hB9) (fun k hk => .inl hk)) hRK
                 have hlt1 : g1 < w70.heap.size := Kd.S_lt HO_136002.out g1 hg1.symm
                 have hseg := Kd.S_seg (okg := fun k_ => (w70.heap.size ≤ k_ ∨ some k_ = u141001.ownBlock)) (Kd.H_below HH.out hB9) (of_decide_eq_true c43b0) (of_decide_eq_true c44b0) (seg := [(.slice A92 (((rd_T27 x136002_1 t152).f2).length + 1) c92)]) (j := 2) z_43 hM' (fun k hk => hk) (fun k hk => by
                  rcases hk with hk | hk
                  ·exact ⟨⟨Kd.fresh' (Kd.R_lt HO_3.out) k hk, Kd.fresh' (Kd.R_lt HO_136001.out) k hk, Kd.freshB BK127.out k hk, Kd.freshB BK135.out k hk⟩, by omega⟩
                  ·have z := HO_141001.out.1 k hk.symm
                   exact ⟨⟨z.1, z.2, fun he => Kd.R_ne HO_141001.out BK127.out (by decide) (by rw [← he]; exact hk), fun he => Kd.R_ne HO_141001.out BK135.out (by decide) (by rw [← he]; exact hk)⟩, fun he => ((Kd.S_R HO_136002.out).1 g1 hg1.symm).2.2.1 (by rw [← he]; exact hk)⟩)
                 have hkids : Kd.S k27 27 (wk.setCell ⟨(ad155.add ((t152).toNat * 3)).block, (ad155.add ((t152).toNat * 3)).off + 2, none⟩ (.slice A92 (((rd_T27 x136002_1 t152).f2).length + 1) c92)) w.heap.size (fun k_ => (some k_ ≠ (.slice (some ad131) y128.length co6 : Value).ownBlock ∧ some k_ ≠ (.slice Ao9 y132.length co9 : Value).ownBlock ∧ k_ ≠ gb127 ∧ k_ ≠ gb135)) (.slice (some ad155) x136002_1.length co66) (x136002_1.set (t152).toNat (⟨(rd_T27 x136002_1 t152).f0, (rd_T27 x136002_1 t152).f1, (rd_T27 x136002_1 t152).f2 ++ [(⟨(rdOf ByteArray.empty y128 (ji16)), x141001_2, ([] : List (S27))⟩ : S27)]⟩ : S27)) := by
                  have z := hseg.1
                  rw [HG1.out, add_at]
                  simp only [Nat.zero_add]
                  exact z
                 have hset : (wk.setCell ⟨(ad155.add ((t152).toNat * 3)).block, (ad155.add ((t152).toNat * 3)).off + 2, none⟩ (.slice A92 (((rd_T27 x136002_1 t152).f2).length + 1) c92)) = wk.setCell ⟨g1, t152.toNat * 3 + 2, none⟩ (.slice A92 (((rd_T27 x136002_1 t152).f2).length + 1) c92) := by rw [HG1.out, add_at]; simp only [Nat.zero_add]
                 have hng : g ≠ g1 := fun he => by have z := IsS63.own_neS HI0.out HO_136002.out (by decide); rw [he] at z; exact z hg1
                 have HW1 : w.heap.size ≤ g1 := Kd.S_base HO_136002.out g1 hg1.symm
                 have hf := (Kd.S_R HO_136002.out).1 g1 hg1.symm
                 have h3 := Aside0.mk (show Kd.string.R 9 (wk.setCell ⟨g1, t152.toNat * 3 + 2, none⟩ (.slice A92 (((rd_T27 x136002_1 t152).f2).length + 1) c92)) w.heap.size (fun k_ => some k_ ≠ (.slice Ao9 y132.length co9 : Value).ownBlock) (.slice (some ad131) y128.length co6) y128 from Kd.R_mono (Kd.R_far (p := ⟨g1, t152.toNat * 3 + 2, none⟩) (Kd.R_far1 (Kd.R_below HO_3.out hB9) rfl hf.1) (fun k hk => hk.2) _) (fun k hk => hk.1.1))
                 have h6 := Aside0.mk (show Kd.string.R 9 (wk.setCell ⟨g1, t152.toNat * 3 + 2, none⟩ (.slice A92 (((rd_T27 x136002_1 t152).f2).length + 1) c92)) w.heap.size (fun k_ => some k_ ≠ (.slice (some ad131) y128.length co6 : Value).ownBlock) (.slice Ao9 y132.length co9) y132 from Kd.R_mono (Kd.R_far (p := ⟨g1, t152.toNat * 3 + 2, none⟩) (Kd.R_far1 (Kd.R_below HO_136001.out hB9) rfl hf.2.1) (fun k hk => hk.2) _) (fun k hk => hk.1.1))
                 have b7 := Aside0.mk (blk_far ((hB9.block _ (blk_lt BK127.out)).trans BK127.out) (p := ⟨g1, t152.toNat * 3 + 2, none⟩) (fun he => hf.2.2.2.1 he.symm) (.slice A92 (((rd_T27 x136002_1 t152).f2).length + 1) c92))
                 have b5 := Aside0.mk (blk_far ((hB9.block _ (blk_lt BK135.out)).trans BK135.out) (p := ⟨g1, t152.toNat * 3 + 2, none⟩) (fun he => hf.2.2.2.2.1 he.symm) (.slice A92 (((rd_T27 x136002_1 t152).f2).length + 1) c92))
                 have i0 := Aside0.mk (IsS63.far (IsS63.below HI0.out hB9) (p := ⟨g1, t152.toNat * 3 + 2, none⟩) hng (.slice A92 (((rd_T27 x136002_1 t152).f2).length + 1) c92))
                 have hk_ := Aside0.mk (keep_far (HK.out.trans (KeepBut.of_below hB9 g none) (.inl rfl)) (p := ⟨g1, t152.toNat * 3 + 2, none⟩) HW1 (.slice A92 (((rd_T27 x136002_1 t152).f2).length + 1) c92))
                 have hb_ := Aside0.mk (below_set (j := t152.toNat * 3 + 2) (v := (.slice A92 (((rd_T27 x136002_1 t152).f2).length + 1) c92)) (below_step HB.out hB9) (Nat.le_trans HW0.out HW1))
                 rw [← hset] at h3 h6 b7 b5 i0 hk_ hb_
                 have hs_ := Aside0.mk hkids
                 clear hkids hseg hset hM' hRK
                 generalize hz_ : (wk.setCell ⟨(ad155.add ((t152).toNat * 3)).block, (ad155.add ((t152).toNat * 3)).off + 2, none⟩ (.slice A92 (((rd_T27 x136002_1 t152).f2).length + 1) c92)) = wz at h3 h6 b7 b5 i0 hk_ hb_ hs_ ⊢
                 clear hz_
                 go_roundg k2
                 case measure => have := HK1.out; have := HK2.out; omega
                 case rel => exact ⟨wrap64 (x5_1 + 1), t157, t158, _, .slice (some ad155) x136002_1.length co66, z_3, H', ⟨z_36 HK1.out HK2.out⟩, h3, h6, ⟨Kd.S_mono hs_.out (fun _ hk => ⟨hk.1, hk.2.1, hk.2.2.1, hk.2.2.2⟩)⟩, b7, b5, i0, hk_, hb_⟩
              ·rw [if_neg c45] at H
               have c45b0 : decide (0 < (((rd_T27 x136002_1 t152).f2).length : Int)) = false := decide_eq_false c45
               have c45b1 : decide (0 < ((rd_T27 x136002_1 t152).f2).length) = false := decide_eq_false (by omega)
               clear c45
               rcases Nat.lt_or_ge ((rd_T27 x136002_1 t152).f2).length 2199023255552 with cL | cL
               rotate_left
               ·rw [if_neg (by omega)] at H; exact absurd H (by simp)
               rw [if_pos cL] at H
               have HLIM := Aside0.mk cL
               clear cL
               have H' := Aside0.mk H
               clear H
               have hnb71 := NB135_127.out
               have hnc71 := NB127_135.out
               have hnb72 := NB135_140.out
               have hnc72 := NB140_135.out
               have hnb73 := NB135_0.out
               have hnc73 := NB0_135.out
               have hcz74_0 : wr.cell? ⟨gb135, 0, none⟩ = some (.string (rdOf ByteArray.empty y128 0)) := (blk_cell BK135.out 0).trans rfl
               have hcz74_1 : wr.cell? ⟨gb135, 1, none⟩ = some (.slice Ao9 y132.length co9) := (blk_cell BK135.out 1).trans rfl
               have hcz74_2 : wr.cell? ⟨gb135, 2, none⟩ = some (u136002) := (blk_cell BK135.out 2).trans rfl
               have hfz74_0 := blk_frozen BK135.out 0
               have hfz74_1 := blk_frozen BK135.out 1
               have hfz74_2 := blk_frozen BK135.out 2
               obtain ⟨Ao75, co75, eo75⟩ := Kd.S_slice HO_136002.out
               subst eo75
               try go_wp2_with (first | (go_at_call 49; (with_reducible refine (spec_l1Once.calls g s0_0 t142 t143 2 true t150 t151 w0 _ ?side1 ?side2 A40.out).mono ?_); (case side1 => exact z_29 HI0.out NB0_127.out NB0_135.out NB0_140.out); (case side2 => exact z_30 HB.out HI0.out GE127.out GE135.out GE140.out); rintro e w76 ⟨rfl, hi, hb, hk⟩; have n0_ := Aside0.mk (Kd.R_mono (Kd.R_keep (IsS63.apart (show IsS63 w0 _ g s0_0 t142 t143 from by repeat (first | (with_reducible first | exact HI0.out | apply IsS63.alloc | apply IsS63.drewN | apply IsS63.drew | apply IsS63.set_1 | apply IsS63.set_2 | refine IsS63.far ?_ NB0_127.out _ | refine IsS63.far ?_ NB0_135.out _ | refine IsS63.far ?_ NB0_140.out _) | exact HI0.out)) (z_17 HO_3.out) (by decide)) hk (fun _ h => h.2)) (fun _ h => h.1)); have n1_ := Aside0.mk (Kd.R_mono (Kd.R_keep (IsS63.apart (show IsS63 w0 _ g s0_0 t142 t143 from by repeat (first | (with_reducible first | exact HI0.out | apply IsS63.alloc | apply IsS63.drewN | apply IsS63.drew | apply IsS63.set_1 | apply IsS63.set_2 | refine IsS63.far ?_ NB0_127.out _ | refine IsS63.far ?_ NB0_135.out _ | refine IsS63.far ?_ NB0_140.out _) | exact HI0.out)) (z_17 HO_136001.out) (by decide)) hk (fun _ h => h.2)) (fun _ h => h.1)); have n2_ := Aside0.mk (Kd.S_mono (Kd.S_keep (IsS63.apartS (show IsS63 w0 _ g s0_0 t142 t143 from by repeat (first | (with_reducible first | exact HI0.out | apply IsS63.alloc | apply IsS63.drewN | apply IsS63.drew | apply IsS63.set_1 | apply IsS63.set_2 | refine IsS63.far ?_ NB0_127.out _ | refine IsS63.far ?_ NB0_135.out _ | refine IsS63.far ?_ NB0_140.out _) | exact HI0.out)) (z_27 HO_136002.out) (by decide)) hk (fun _ h => h.2)) (fun _ h => h.1)); have n3_ := Aside0.mk (Kd.R_mono (Kd.R_keep (IsS63.apart (show IsS63 w0 _ g s0_0 t142 t143 from by repeat (first | (with_reducible first | exact HI0.out | apply IsS63.alloc | apply IsS63.drewN | apply IsS63.drew | apply IsS63.set_1 | apply IsS63.set_2 | refine IsS63.far ?_ NB0_127.out _ | refine IsS63.far ?_ NB0_135.out _ | refine IsS63.far ?_ NB0_140.out _) | exact HI0.out)) (z_17 HO_141001.out) (by decide)) hk (fun _ h => h.2)) (fun _ h => h.1)); have n4_ := Aside0.mk (KeepBut.blk hk (g' := gb127) (o := .cells #[.string (⟨#[]⟩ : ByteArray), .slice none 0 0, .slice none 0 0] 27 (0, 0)) (z_7 BK127.out) NB127_0.out (by simp)); have n5_ := Aside0.mk (KeepBut.blk hk (g' := gb135) (o := .cells #[.string (rdOf ByteArray.empty y128 0), .slice Ao9 y132.length co9, .slice Ao75 x136002_1.length co75] 27 (0, 0)) (z_7 BK135.out) NB135_0.out (by simp)); have n6_ := Aside0.mk (KeepBut.blk hk (g' := gb140) (o := .cells #[.string (rdOf ByteArray.empty y128 (ji16)), u141001, .slice none 0 0] 27 (0, 0)) (z_7 BK140.out) NB140_0.out (by simp)); have n7_ := Aside0.mk (KeepBut.trans (z_32 HK.out GW127.out GW135.out GW140.out) hk (.inl rfl)); have n8_ := Aside0.mk (hb); have n9_ := Aside0.mk (hi); clear HO_3; clear HO_136001; clear HO_136002; clear HO_141001; clear BK127; clear BK135; clear BK140; clear HK; clear HB; clear HI0; have HO_3 := n0_; have HO_136001 := n1_; have HO_136002 := n2_; have HO_141001 := n3_; have BK127 := n4_; have BK135 := n5_; have BK140 := n6_; have HK := n7_; have HB := n8_; have HI0 := n9_; clear n0_ n1_ n2_ n3_ n4_ n5_ n6_ n7_ n8_ n9_; (try clear hb); (try clear hb2); (try clear hk); (try clear hi)))
               have n0_ := Aside0.mk (Kd.R_drew HO_3.out)
               have n1_ := Aside0.mk (Kd.R_drew HO_136001.out)
               have n2_ := Aside0.mk (Kd.S_drew HO_136002.out)
               have n3_ := Aside0.mk (Kd.R_drew HO_141001.out)
               have n4_ := Aside0.mk (blk_drew BK127.out)
               have n5_ := Aside0.mk (blk_drew BK135.out)
               have n6_ := Aside0.mk (blk_drew BK140.out)
               have n7_ := Aside0.mk (IsS63.drew HI0.out)
               have n8_ := Aside0.mk (keep_drew HK.out)
               have n9_ := Aside0.mk (below_drew1 HB.out)
               clear HO_3
               clear HO_136001
               clear HO_136002
               clear HO_141001
               clear BK127
               clear BK135
               clear BK140
               clear HI0
               clear HK
               clear HB
               have HO_3 := n0_
               have HO_136001 := n1_
               have HO_136002 := n2_
               have HO_141001 := n3_
               have BK127 := n4_
               have BK135 := n5_
               have BK140 := n6_
               have HI0 := n7_
               have HK := n8_
               have HB := n9_
               clear n0_ n1_ n2_ n3_ n4_ n5_ n6_ n7_ n8_ n9_
               have p155 : 0 ≤ (t152 : Int) := of_decide_eq_true z_5
               have q155 : t152 < (x136002_1.length : Int) := of_decide_eq_true z_5
               obtain ⟨ad155, A155_1, c155_1, A155_2, c155_2, e155, hx155_0, hx155_1, hx155_2, hl155_1, hi155_1, hl155_2, hi155_2⟩ := at_T27 (Kd.S_reads' HO_136002.out).2.2 t152 p155 q155
               cases e155
               obtain ⟨ce155, hce155, hMe155, hcc155⟩ := Kd.S_get HO_136002.out z27 t152 p155 (z_39 HO_136002.out)
               obtain ⟨ve155_1, ve155_2, rfl, ge155_1, ge155_2⟩ := k27_openM hMe155
               have hv155_1 := hcc155 1 _ rfl
               rw [add_field _ _ 1 (by omega)] at hv155_1
               replace hv155_1 := Option.some.inj (hv155_1.symm.trans hx155_1)
               rw [hv155_1] at ge155_1
               have HL155_1 := Aside0.mk (show Kd.R Kd.string 9 _ _ _ _ ((rd_T27 x136002_1 t152).f1) from ge155_1)
               clear hv155_1 ge155_1
               have hv155_2 := hcc155 2 _ rfl
               rw [add_field _ _ 2 (by omega)] at hv155_2
               replace hv155_2 := Option.some.inj (hv155_2.symm.trans hx155_2)
               rw [hv155_2] at ge155_2
               have HL155_2 := Aside0.mk (show Kd.R k27 27 _ _ _ _ ((rd_T27 x136002_1 t152).f2) from ge155_2)
               clear hv155_2 ge155_2
               clear hcc155 hce155
               have HR155_1 := Aside0.mk hi155_1
               have HC155_1 := Aside0.mk hl155_1
               clear hi155_1 hl155_1
               have HR155_2 := Aside0.mk hi155_2
               have HC155_2 := Aside0.mk hl155_2
               clear hi155_2 hl155_2
               replace p155 := eq_true p155
               replace q155 := eq_true q155
               refine st_ 9 (fun w' => w'.cell? ⟨gb135, 0, none⟩ = some (.string (rdOf ByteArray.empty y128 0)) ∧ w'.cell? ⟨gb135, 1, none⟩ = some (.slice Ao9 y132.length co9) ∧ w'.cell? ⟨gb135, 2, none⟩ = some (.slice (some ad155) x136002_1.length co75) ∧ w'.cell? (ad155.add ((t152).toNat * 3)) = some (.string ((rd_T27 x136002_1 t152).f0)) ∧ w'.cell? ⟨(ad155.add ((t152).toNat * 3)).block, (ad155.add ((t152).toNat * 3)).off + 1, none⟩ = some (.slice A155_1 ((rd_T27 x136002_1 t152).f1).length c155_1) ∧ w'.cell? ⟨(ad155.add ((t152).toNat * 3)).block, (ad155.add ((t152).toNat * 3)).off + 2, none⟩ = some (.slice A155_2 ((rd_T27 x136002_1 t152).f2).length c155_2)) [] ⟨(blk_cell BK135.out 0).trans rfl, (blk_cell BK135.out 1).trans rfl, (blk_cell BK135.out 2).trans rfl, hx155_0, hx155_1, hx155_2⟩ (fun hHeld => ?_); refine with_tabW spec_l22Draw.tab12 spec_l22Draw.bits12 (fun HT_ HW_ => ?_)
               generalize w76.drew = w77 at HO_3 HO_136001 HO_136002 HO_141001 BK127 BK135 BK140 HI0 HK HB HL155_1 HL155_2 HR155_1 HR155_2 hx155_0 hx155_1 hx155_2 hHeld ⊢
               refine go_ ?_ [0, 2, 3, 1001, 1004, 5] ?_
               refine on_ 6 59 (fun K hK => ?_)
               refine gs_ Try.func47 #[.pointer (some ⟨g, 0, none⟩), .int .i64 (x136002_1.length : Int)] ?_
               with_reducible refine (spec_l1Below.calls g s0_0 t150 t151 (x136002_1.length : Int) t152 t153 t154 w0 _ ?side1 ?side2 A42.out).mono ?_
               (case side1 => exact z_29 HI0.out NB0_127.out NB0_135.out NB0_140.out)
               (case side2 => exact z_30 HB.out HI0.out GE127.out GE135.out GE140.out)
               rintro e w78 ⟨rfl, hi, hb, hk⟩
               have HS3_ := keep_cell hk (hHeld.2.2.2.1) (z_40 HI0.out HO_136002.out)
               have HS4_ := keep_cell hk (hHeld.2.2.2.2.1) (z_40 HI0.out HO_136002.out)
               have HS5_ := keep_cell hk (hHeld.2.2.2.2.2) (z_40 HI0.out HO_136002.out)
               refine ⟨_, rfl, ?_⟩
               replace HL155_1 := Aside0.mk (Kd.R_mono (Kd.R_keep (IsS63.apart HI0.out HL155_1.out (by decide)) hk (fun _ h => h.2)) (fun _ h => h.1))
               replace HL155_2 := Aside0.mk (Kd.R_mono (Kd.R_keep (IsS63.apart HI0.out HL155_2.out (by decide)) hk (fun _ h => h.2)) (fun _ h => h.1))
               have n0_ := Aside0.mk (Kd.R_mono (Kd.R_keep (IsS63.apart (show IsS63 w0 _ g s0_0 t150 t151 from by repeat (first | (with_reducible first | exact HI0.out | apply IsS63.alloc | apply IsS63.drewN | apply IsS63.drew | apply IsS63.set_1 | apply IsS63.set_2 | refine IsS63.far ?_ NB0_127.out _ | refine IsS63.far ?_ NB0_135.out _ | refine IsS63.far ?_ NB0_140.out _) | exact HI0.out)) (z_17 HO_3.out) (by decide)) hk (fun _ h => h.2)) (fun _ h => h.1))
               have n1_ := Aside0.mk (Kd.R_mono (Kd.R_keep (IsS63.apart (show IsS63 w0 _ g s0_0 t150 t151 from by repeat (first | (with_reducible first | exact HI0.out | apply IsS63.alloc | apply IsS63.drewN | apply IsS63.drew | apply IsS63.set_1 | apply IsS63.set_2 | refine IsS63.far ?_ NB0_127.out _ | refine IsS63.far ?_ NB0_135.out _ | refine IsS63.far ?_ NB0_140.out _) | exact HI0.out)) (z_17 HO_136001.out) (by decide)) hk (fun _ h => h.2)) (fun _ h => h.1))
               have n2_ := Aside0.mk (Kd.S_mono (Kd.S_keep (IsS63.apartS (show IsS63 w0 _ g s0_0 t150 t151 from by repeat (first | (with_reducible first | exact HI0.out | apply IsS63.alloc | apply IsS63.drewN | apply IsS63.drew | apply IsS63.set_1 | apply IsS63.set_2 | refine IsS63.far ?_ NB0_127.out _ | refine IsS63.far ?_ NB0_135.out _ | refine IsS63.far ?_ NB0_140.out _) | exact HI0.out)) (z_27 HO_136002.out) (by decide)) hk (fun _ h => h.2)) (fun _ h => h.1))
               have n3_ := Aside0.mk (Kd.R_mono (Kd.R_keep (IsS63.apart (show IsS63 w0 _ g s0_0 t150 t151 from by repeat (first | (with_reducible first | exact HI0.out | apply IsS63.alloc | apply IsS63.drewN | apply IsS63.drew | apply IsS63.set_1 | apply IsS63.set_2 | refine IsS63.far ?_ NB0_127.out _ | refine IsS63.far ?_ NB0_135.out _ | refine IsS63.far ?_ NB0_140.out _) | exact HI0.out)) (z_17 HO_141001.out) (by decide)) hk (fun _ h => h.2)) (fun _ h => h.1))
               have n4_ := Aside0.mk (KeepBut.blk hk (g' := gb127) (o := .cells #[.string (⟨#[]⟩ : ByteArray), .slice none 0 0, .slice none 0 0] 27 (0, 0)) (z_7 BK127.out) NB127_0.out (by simp))
               have n5_ := Aside0.mk (KeepBut.blk hk (g' := gb135) (o := .cells #[.string (rdOf ByteArray.empty y128 0), .slice Ao9 y132.length co9, .slice (some ad155) x136002_1.length co75] 27 (0, 0)) (z_7 BK135.out) NB135_0.out (by simp))
               have n6_ := Aside0.mk (KeepBut.blk hk (g' := gb140) (o := .cells #[.string (rdOf ByteArray.empty y128 (ji16)), u141001, .slice none 0 0] 27 (0, 0)) (z_7 BK140.out) NB140_0.out (by simp))
               have n7_ := Aside0.mk (KeepBut.trans (z_32 HK.out GW127.out GW135.out GW140.out) hk (.inl rfl))
               have n8_ := Aside0.mk (hb)
               have n9_ := Aside0.mk (hi)
               clear HO_3
               clear HO_136001
               clear HO_136002
               clear HO_141001
               clear BK127
               clear BK135
               clear BK140
               clear HK
               clear HB
               clear HI0
               have HO_3 := n0_
               have HO_136001 := n1_
               have HO_136002 := n2_
               have HO_141001 := n3_
               have BK127 := n4_
               have BK135 := n5_
               have BK140 := n6_
               have HK := n7_
               have HB := n8_
               have HI0 := n9_
               clear n0_ n1_ n2_ n3_ n4_ n5_ n6_ n7_ n8_ n9_
               (try clear hb)
               (try clear hb2)
               (try clear hk)
               (try clear hi)
               refine hK.out _ _ ⟨(blk_cell BK135.out 0).trans rfl, (blk_cell BK135.out 1).trans rfl, (blk_cell BK135.out 2).trans rfl, HS3_, HS4_, HS5_⟩ (fun hHeld => ?_)
               clear hK K
               refine nm_ ?_
               refine go_ ?_ [7, 8] ?_
               refine done_ (done_of HT_.out (by kernel_rfl)) ?_
               try go_wp2
               have HS' : Kd.S k27 27 w78 w.heap.size (fun k_ => (some k_ ≠ (.slice (some ad131) y128.length co6 : Value).ownBlock ∧ some k_ ≠ (.slice Ao9 y132.length co9 : Value).ownBlock ∧ k_ ≠ gb127 ∧ k_ ≠ gb135) ∧ ¬ (w78.heap.size ≤ k_ ∨ some k_ = u141001.ownBlock)) (.slice (some ad155) x136002_1.length co75) x136002_1 := Kd.S_mono (Kd.S_bound HO_136002.out) (fun k hk => ⟨⟨hk.1.1, hk.1.2.1, hk.1.2.2.2.1, hk.1.2.2.2.2.1⟩, fun h_ => h_.elim (fun h2 => by have := hk.2.2.1; omega) (fun h2 => hk.1.2.2.1 h2)⟩)
               obtain ⟨g1, hg1⟩ := Kd.R_head (Kd.S_R HS')
               have HG1 := Aside0.mk hg1
               rw [hg1] at HS'
               clear hg1
               obtain ⟨oki, ce, hcl, hMe, hcc, hfr, hoki, hH⟩ := Kd.S_elem HS' z27 t152 (of_decide_eq_true c43b0) (of_decide_eq_true c44b0)
               obtain ⟨ve1, ve2, rfl, hm1, hm2⟩ := k27_openM hMe
               have HS5g : w78.cell? ⟨g1, t152.toNat * 3 + 2, none⟩ = some (.slice A155_2 (((rd_T27 x136002_1 t152).f2).length) c155_2) := by
                have z := HS5_
                rw [HG1.out, add_at, Nat.zero_add] at z
                exact z
               have hv2 : ve2 = .slice A155_2 (((rd_T27 x136002_1 t152).f2).length) c155_2 := Option.some.inj ((hcc 2 _ rfl).symm.trans HS5g)
               subst hv2
               have HIN := Aside0.mk (show k27.R 27 w78 w.heap.size oki (.slice A155_2 (((rd_T27 x136002_1 t152).f2).length) c155_2) (((rd_T27 x136002_1 t152).f2)) from hm2)
               have HM1 := Aside0.mk hm1
               have HCC := Aside0.mk hcc
               have HFR := Aside0.mk hfr
               have HOKI := Aside0.mk hoki
               have HH := Aside0.mk hH
               clear hm1 hm2 hcc hfr hoki hH HS5g HS' hcl hMe
               obtain ⟨RS, hRl, hRn, hRM, hRC⟩ := raws HIN.out
               refine st_ 13 (fun w' => w'.cell? ⟨gb140, 0, none⟩ = some (.string (rdOf ByteArray.empty y128 (ji16))) ∧ w'.cell? ⟨gb140, 1, none⟩ = some (u141001) ∧ w'.cell? ⟨gb140, 2, none⟩ = some (.slice none 0 0) ∧ w'.cell? ⟨(ad155.add ((t152).toNat * 3)).block, (ad155.add ((t152).toNat * 3)).off + 2, none⟩ = some (.slice A155_2 ((rd_T27 x136002_1 t152).f2).length c155_2)) [12] ⟨(blk_cell BK140.out 0).trans rfl, (blk_cell BK140.out 1).trans rfl, (blk_cell BK140.out 2).trans rfl, HS5_⟩ (fun hHeld => ?_); refine with_tabW spec_l22Draw.tab15 spec_l22Draw.bits15 (fun HT_ HW_ => ?_)
               have hBd : Below w78.heap.size w78 w78.drew := below_drew1 (Below.refl _ _)
               generalize w78.drew = wd at hBd hHeld ⊢
               refine go_ ?_ [0, 2, 3, 4, 1007, 1005] ?_
               have hRC3 : (Kd.raw 3).C wd A155_2 (((rd_T27 x136002_1 t152).f2).length) RS := Kd.C_below hRC hBd
               have hK1 : ∀ u ∈ ([.string (rdOf ByteArray.empty y128 (ji16)), u141001, .slice none 0 0] : List Value), u.oneCell' = true := by rw [show u141001 = _ from (Kd.R_slice HO_141001.out).choose_spec.choose_spec]; simp [Value.oneCell']
               have hB0 : Below wd.heap.size wd wd := Below.refl _ _
               have hlim : (([] : List (List Value)).length + ((rd_T27 x136002_1 t152).f2).length) * 64 ≤ 140737488355328 := by have := HLIM.out; simp only [List.length_nil]; omega
               have hlim2 : (RS.length + 1) * 64 ≤ 140737488355328 := by have := HLIM.out; rw [hRl]; omega
               have hSS : ∀ w', Below wd.heap.size wd w' → w'.cell? ⟨gb140, 0, none⟩ = some (.string (rdOf ByteArray.empty y128 (ji16))) ∧ w'.cell? ⟨gb140, 1, none⟩ = some (u141001) ∧ w'.cell? ⟨gb140, 2, none⟩ = some (.slice none 0 0) ∧ w'.cell? ⟨(ad155.add ((t152).toNat * 3)).block, (ad155.add ((t152).toNat * 3)).off + 2, none⟩ = some (.slice A155_2 (((rd_T27 x136002_1 t152).f2).length) c155_2) := fun w' hb => ⟨(hb.cell (World.block_lt_of_cell? wd _ hHeld.1)).trans hHeld.1, (hb.cell (World.block_lt_of_cell? wd _ hHeld.2.1)).trans hHeld.2.1, (hb.cell (World.block_lt_of_cell? wd _ hHeld.2.2.1)).trans hHeld.2.2.1, (hb.cell (World.block_lt_of_cell? wd _ hHeld.2.2.2)).trans hHeld.2.2.2⟩
               refine join_ (σ := Value × Value × Value) 4 (bz 13 511) (fun s_ => [(84, s_.1), (89, s_.2.1), (91, s_.2.2)]) (fun s_ w' => Below wd.heap.size wd w' ∧ (Kd.raw 3).R 27 w' wd.heap.size (fun k => some k ≠ s_.2.2.ownBlock) s_.2.1 RS ∧ (Kd.raw 3).R 27 w' wd.heap.size (fun _ => True) s_.2.2 [[.string (rdOf ByteArray.empty y128 (ji16)), u141001, .slice none 0 0]]) ?_ ?_
               rotate_left
               ·intro hCont
                refine two_ (i := 1) (j := 8) (Ni := some 84) (Nj := some 91) (bz 13 191) (bz 13 445) rfl rfl rfl rfl (two_of HT_.out (by kernel_rfl)) (by decide) (by decide) (fun K hK => ?_) (fun K hK => ?_)
                ·refine Kd.R_lit_step (Kd.raw 3) (w0 := wd) wd.heap.size 27 (by rfl) (N := 84) rfl (xs := ([] : List (List Value))) (inner := []) (ok := fun _ => True) (okp := fun _ => False) ?hra (Reps.none _ _) (fun _ h => h.elim) trivial hB0 hB0.size (by simp) ?_
                 (case hra => first | (go_simp; done) | (go_simp; rfl))
                 intro v84 wa ho84 hba hga hn84
                 refine hK.out _ _ (hSS _ hba) (fun hHeld => ?_)
                 clear hK K
                 refine nm_ ?_
                 refine two_ (i := 6) (j := 8) (Ni := some 89) (Nj := some 91) (bz 13 255) (bz 13 447) rfl rfl rfl rfl (two_of HT_.out (by kernel_rfl)) (by decide) (by decide) (fun K hK => ?_) (fun K hK => ?_)
                 ·refine Kd.R_append_rows_step (Kd.raw 3) (Rr := (Kd.raw 3).K wd) (w0 := wd) wd.heap.size (by rfl) (.tmp 84) (.tmp 88) 25 27 (.agg #[(.string ⟨#[]⟩), (.slice none 0 0), (.slice none 0 0)]) 64 (by rfl) Try.underlying25 info27 rfl (by decide) (by decide) v84 [] RS A155_2 (((rd_T27 x136002_1 t152).f2).length) c155_2 (fun _ => True) (fun _ => False) (by rfl) (by rfl) ho84 (Kd.C_below hRC3 hba) (fun _ _ h => h) (fun _ h => h.elim) (fun _ _ => trivial) hba hba.size hlim ?_
                  intro v89 wb ho89 hbb hgb hat89
                  refine hK.out _ _ (hSS _ hbb) (fun hHeld => ?_)
                  clear hK K
                  refine nm_ ?_
                  refine on_ 8 91 (fun K hK => ?_)
                  refine Kd.R_lit_step (Kd.raw 3) (w0 := wd) wd.heap.size 27 (by rfl) (N := 91) rfl (xs := [[.string (rdOf ByteArray.empty y128 (ji16)), u141001, .slice none 0 0]]) (inner := [.string (rdOf ByteArray.empty y128 (ji16)), u141001, .slice none 0 0]) (ok := fun _ => True) (okp := fun _ => False) ?hrc (raw_one _ _ _ _ rfl hK1) (fun _ h => h.elim) trivial hbb hbb.size (by simp) ?_
                  (case hrc => first | (go_simp; done) | (go_simp; rfl))
                  intro v91 wc_ ho91 hbc hgc hn91
                  refine hK.out _ _ (hSS _ hbc) (fun hHeld => ?_)
                  clear hK K
                  refine nm_ ?_
                  have hne : ∀ k, v89.ownBlock = some k → some k ≠ v91.ownBlock := fun k hk he => by obtain ⟨b_, e_, l_⟩ := hn91; rw [e_] at he; cases he; have := Kd.R_lt ho89 _ hk; omega
                  exact hCont (v84, v89, v91) _ ⟨hbc, raw_ok (raw_grown ho89 hgc (by simp)) hne, ho91⟩
                 ·refine Kd.R_lit_step (Kd.raw 3) (w0 := wd) wd.heap.size 27 (by rfl) (N := 91) rfl (xs := [[.string (rdOf ByteArray.empty y128 (ji16)), u141001, .slice none 0 0]]) (inner := [.string (rdOf ByteArray.empty y128 (ji16)), u141001, .slice none 0 0]) (ok := fun _ => True) (okp := fun _ => False) ?hrb (raw_one _ _ _ _ rfl hK1) (fun _ h => h.elim) trivial hba hba.size (by simp) ?_
                  (case hrb => first | (go_simp; done) | (go_simp; rfl))
                  intro v91 wb ho91 hbb hgb hn91
                  refine hK.out _ _ (hSS _ hbb) (fun hHeld => ?_)
                  clear hK K
                  refine nm_ ?_
                  refine on_ 6 89 (fun K hK => ?_)
                  have ho84' := raw_grown ho84 hgb (by simp)
                  have hne4 : ∀ k, v91.ownBlock = some k → some k ≠ v84.ownBlock := fun k hk he => by obtain ⟨b_, e_, l_⟩ := hn91; rw [e_] at hk; cases hk; have := Kd.R_lt ho84 _ he.symm; omega
                  clear ho84
                  have ho84 := ho84'
                  clear ho84'
                  refine Kd.R_append_rows_step (Kd.raw 3) (Rr := (Kd.raw 3).K wd) (w0 := wd) wd.heap.size (by rfl) (.tmp 84) (.tmp 88) 25 27 (.agg #[(.string ⟨#[]⟩), (.slice none 0 0), (.slice none 0 0)]) 64 (by rfl) Try.underlying25 info27 rfl (by decide) (by decide) v84 [] RS A155_2 (((rd_T27 x136002_1 t152).f2).length) c155_2 (fun _ => True) (fun _ => False) (by rfl) (by rfl) ho84 (Kd.C_below hRC3 hbb) (fun _ _ h => h) (fun _ h => h.elim) (fun _ _ => trivial) hbb hbb.size hlim ?_
                  intro v89 wc_ ho89 hbc hgc hat89
                  refine hK.out _ _ (hSS _ hbc) (fun hHeld => ?_)
                  clear hK K
                  refine nm_ ?_
                  have hne : ∀ k, v89.ownBlock = some k → some k ≠ v91.ownBlock := by
                   intro k hk he
                   rcases hat89 with h_ | ⟨b_, e_, l_⟩
                   ·exact hne4 k he.symm z_41
                   ·rw [e_] at hk; cases hk; have := Kd.R_lt ho91 _ he.symm; omega
                  exact hCont (v84, v89, v91) _ ⟨hbc, raw_ok ho89 hne, raw_grown ho91 hgc hne4⟩
                ·refine Kd.R_lit_step (Kd.raw 3) (w0 := wd) wd.heap.size 27 (by rfl) (N := 91) rfl (xs := [[.string (rdOf ByteArray.empty y128 (ji16)), u141001, .slice none 0 0]]) (inner := [.string (rdOf ByteArray.empty y128 (ji16)), u141001, .slice none 0 0]) (ok := fun _ => True) (okp := fun _ => False) ?hra (raw_one _ _ _ _ rfl hK1) (fun _ h => h.elim) trivial hB0 hB0.size (by simp) ?_
                 (case hra => first | (go_simp; done) | (go_simp; rfl))
                 intro v91 wa ho91 hba hga hn91
                 refine hK.out _ _ (hSS _ hba) (fun hHeld => ?_)
                 clear hK K
                 refine nm_ ?_
                 refine on_ 1 84 (fun K hK => ?_)
                 refine Kd.R_lit_step (Kd.raw 3) (w0 := wd) wd.heap.size 27 (by rfl) (N := 84) rfl (xs := ([] : List (List Value))) (inner := []) (ok := fun _ => True) (okp := fun _ => False) ?hrb (Reps.none _ _) (fun _ h => h.elim) trivial hba hba.size (by simp) ?_
                 (case hrb => first | (go_simp; done) | (go_simp; rfl))
                 intro v84 wb ho84 hbb hgb hn84
                 refine hK.out _ _ (hSS _ hbb) (fun hHeld => ?_)
                 clear hK K
                 refine nm_ ?_
                 refine on_ 6 89 (fun K hK => ?_)
                 have ho91' := raw_grown ho91 hgb (by simp)
                 have hne4 : ∀ k, v91.ownBlock = some k → some k ≠ v84.ownBlock := fun k hk he => by obtain ⟨b_, e_, l_⟩ := hn84; rw [e_] at he; cases he; have := Kd.R_lt ho91 _ hk; omega
                 clear ho91
                 have ho91 := ho91'
                 clear ho91'
                 refine Kd.R_append_rows_step (Kd.raw 3) (Rr := (Kd.raw 3).K wd) (w0 := wd) wd.heap.size (by rfl) (.tmp 84) (.tmp 88) 25 27 (.agg #[(.string ⟨#[]⟩), (.slice none 0 0), (.slice none 0 0)]) 64 (by rfl) Try.underlying25 info27 rfl (by decide) (by decide) v84 [] RS A155_2 (((rd_T27 x136002_1 t152).f2).length) c155_2 (fun _ => True) (fun _ => False) (by rfl) (by rfl) ho84 (Kd.C_below hRC3 hbb) (fun _ _ h => h) (fun _ h => h.elim) (fun _ _ => trivial) hbb hbb.size hlim ?_
                 intro v89 wc_ ho89 hbc hgc hat89
                 refine hK.out _ _ (hSS _ hbc) (fun hHeld => ?_)
                 clear hK K
                 refine nm_ ?_
                 have hne : ∀ k, v89.ownBlock = some k → some k ≠ v91.ownBlock := by
                  intro k hk he
                  rcases hat89 with h_ | ⟨b_, e_, l_⟩
                  ·exact hne4 k he.symm z_41
                  ·rw [e_] at hk; cases hk; have := Kd.R_lt ho91 _ he.symm; omega
                 exact hCont (v84, v89, v91) _ ⟨hbc, raw_ok ho89 hne, raw_grown ho91 hgc hne4⟩
               ·rintro ⟨v84, v89, v91⟩ wj ⟨hbj, ho89, ho91⟩
                obtain ⟨A91, c91, e91⟩ := Kd.R_slice ho91
                subst e91
                refine norm_ (a' := ?_) ?_ ?_
                rotate_left
                ·show putAll _ [(84, v84), (89, v89), (91, .slice A91 _ c91)] = _
                 simp only [putAll, Act.put, List.setIfInBounds_toArray, List.set_cons_zero, List.set_cons_succ, i64_w, i32_w]
                 rfl
                refine on_ 9 92 (fun K hK => ?_)
                refine Kd.R_append_rows_step (Kd.raw 3) (Rr := (Kd.raw 3).K wj) (w0 := wd) wd.heap.size (by rfl) (.tmp 89) (.tmp 91) 25 27 (.agg #[(.string ⟨#[]⟩), (.slice none 0 0), (.slice none 0 0)]) 64 (by rfl) Try.underlying25 info27 rfl (by decide) (by decide) v89 RS [[.string (rdOf ByteArray.empty y128 (ji16)), u141001, .slice none 0 0]] A91 1 c91 (fun _ => True) (fun _ => False) (by rfl) (by rfl) (raw_ok ho89 (fun _ _ => trivial)) (Kd.R_reads' ho91).2.2 (fun _ _ h => h) (fun _ h => h.elim) (fun _ _ => trivial) hbj hbj.size hlim2 ?_
                intro v92 wk ho92 hbk hgk hat92
                obtain ⟨A92, c92, e92⟩ := Kd.R_slice ho92
                subst e92
                refine hK.out _ _ (hSS _ hbk) (fun hHeld => ?_)
                clear hK K
                refine nm_ ?_
                refine go_ ?_ [10, 11] ?_
                refine last_ (i := 12) (N := none) (bz 13 8191) rfl rfl (one_of HT_.out (by kernel_rfl)) (by decide) (fun K hK => ?_)
                have hs15 : wk.cell? ⟨(ad155.add ((t152).toNat * 3)).block, (ad155.add ((t152).toNat * 3)).off + 2, none⟩ = some (.slice A155_2 (((rd_T27 x136002_1 t152).f2).length) c155_2) := (hSS _ hbk).2.2.2
                have hB9 : Below w78.heap.size w78 wk := hBd.trans (hbk.mono hBd.size)
                have hfs15 : wk.frozen? ⟨(ad155.add ((t152).toNat * 3)).block, (ad155.add ((t152).toNat * 3)).off + 2, none⟩ = false := by
                 have z : w78.frozen? ⟨g1, t152.toNat * 3 + 2, none⟩ = false := HFR.out 2
                 rw [HG1.out, add_at]
                 simp only [Nat.zero_add]
                 have z2 : wk.frozen? ⟨g1, t152.toNat * 3 + 2, none⟩ = false := (hB9.frozen (p := ⟨g1, t152.toNat * 3 + 2, none⟩) (World.block_lt_of_cell? w78 ⟨g1, t152.toNat * 3 + 2, none⟩ (HCC.out 2 _ rfl))).trans z
                 exact z2
                refine skip_ (w1 := ?_) (by rfl) rfl ?_ ?_
                rotate_left
                ·go_simp
                 rfl
                refine hK.out _ _ ?_
                clear hK K
                refine done_ (done_of HT_.out (by kernel_rfl)) ?_
                try go_wp2
                have hsz : w.heap.size ≤ w78.heap.size := HK.out.1
                have hg1 : some g1 = (Value.slice (some ad155) x136002_1.length co75).ownBlock := by rw [HG1.out]; rfl
                have ho92' : (Kd.raw 3).R 27 wk wd.heap.size (fun _ => True) (.slice A92 (((rd_T27 x136002_1 t152).f2).length + 1) c92) (RS ++ [[.string (rdOf ByteArray.empty y128 (ji16)), u141001, .slice none 0 0]]) := by
                 have z := ho92
                 rw [show (RS ++ [[.string (rdOf ByteArray.empty y128 (ji16)), u141001, .slice none 0 0]]).length = ((rd_T27 x136002_1 t152).f2).length + 1 from by simp [hRl]] at z
                 exact z
                have hRK : k27.R 27 wk w.heap.size (fun k_ => oki k_ ∨ (w78.heap.size ≤ k_ ∨ some k_ = u141001.ownBlock)) (.slice A92 (((rd_T27 x136002_1 t152).f2).length + 1) c92) ((rd_T27 x136002_1 t152).f2 ++ [(⟨(rdOf ByteArray.empty y128 (ji16)), x141001_2, ([] : List (S27))⟩ : S27)]) := by
                 refine of_raws (d := k27) (Kd.R_lower ho92' (Nat.le_trans hsz hBd.size)) (fun k hk => .inr (.inl (Nat.le_trans hBd.size (Kd.R_base ho92' k hk)))) (by simp [hRl]) (fun j x hx => ?_)
                 by_cases hj : j < (rd_T27 x136002_1 t152).f2.length
                 ·rw [List.getElem?_append_left hj] at hx
                  rw [List.getD_eq_getElem?_getD, List.getElem?_append_left (by rw [hRl]; exact hj), ← List.getD_eq_getElem?_getD]
                  refine k27.M_mono (fun k hk => ⟨.inl hk.1.1, fun he => ?_⟩) (Kd.M_below (k27.M_bound (hRM j x hx)) hB9)
                  have h1 := hk.2.2.1
                  have h2 := Kd.R_base ho92' k he.symm
                  have h3 := hBd.size
                  omega
                 ·have hj2 : j = (rd_T27 x136002_1 t152).f2.length := by
                   have := (List.getElem?_eq_some_iff.1 hx).1
                   simp at this
                   omega
                  subst hj2
                  rw [List.getElem?_append_right (Nat.le_refl _), Nat.sub_self] at hx
                  obtain rfl := Option.some.inj hx
                  rw [List.getD_eq_getElem?_getD, List.getElem?_append_right z_42, hRl, Nat.sub_self]
                  refine k27_mkM _ _ _ (⟨(rdOf ByteArray.empty y128 (ji16)), x141001_2, ([] : List (S27))⟩ : S27) (Kd.R_mono (Kd.R_tight rfl (Kd.R_below HO_141001.out hB9)) (fun k hk => ⟨.inr (.inr hk), fun he => ?_⟩)) (Kd.R_nil _ _ _ _ _)
                  have h1 := Kd.R_lt HO_141001.out k hk.symm
                  have h2 := Kd.R_base ho92' k he.symm
                  have h3 := hBd.size
                  omega
                have hM' : k27.M wk w.heap.size (fun k_ => oki k_ ∨ (w78.heap.size ≤ k_ ∨ some k_ = u141001.ownBlock)) (⟨(rd_T27 x136002_1 t152).f0, (rd_T27 x136002_1 t152).f1, (rd_T27 x136002_1 t152).f2 ++ [(⟨(rdOf ByteArray.empty y128 (ji16)), x141001_2, ([] : List (S27))⟩ : S27)]⟩ : S27) [.string (rd_T27 x136002_1 t152).f0, ve1, (.slice A92 (((rd_T27 x136002_1 t152).f2).length + 1) c92)] := k27_mkM _ _ _ (⟨(rd_T27 x136002_1 t152).f0, (rd_T27 x136002_1 t152).f1, (rd_T27 x136002_1 t152).f2 ++ [(⟨(rdOf ByteArray.empty y128 (ji16)), x141001_2, ([] : List (S27))⟩ : S27)]⟩ : S27) (Kd.R_mono (Kd.R_below HM1.out hB9) (fun k hk => .inl hk)) hRK
                have hlt1 : g1 < w78.heap.size := Kd.S_lt HO_136002.out g1 hg1.symm
                have hseg := Kd.S_seg (okg := fun k_ => (w78.heap.size ≤ k_ ∨ some k_ = u141001.ownBlock)) (Kd.H_below HH.out hB9) (of_decide_eq_true c43b0) (of_decide_eq_true c44b0) (seg := [(.slice A92 (((rd_T27 x136002_1 t152).f2).length + 1) c92)]) (j := 2) z_43 hM' (fun k hk => hk) (fun k hk => by
                 rcases hk with hk | hk
                 ·exact ⟨⟨Kd.fresh' (Kd.R_lt HO_3.out) k hk, Kd.fresh' (Kd.R_lt HO_136001.out) k hk, Kd.freshB BK127.out k hk, Kd.freshB BK135.out k hk⟩, by omega⟩
                 ·have z := HO_141001.out.1 k hk.symm
                  exact ⟨⟨z.1, z.2, fun he => Kd.R_ne HO_141001.out BK127.out (by decide) (by rw [← he]; exact hk), fun he => Kd.R_ne HO_141001.out BK135.out (by decide) (by rw [← he]; exact hk)⟩, fun he => ((Kd.S_R HO_136002.out).1 g1 hg1.symm).2.2.1 (by rw [← he]; exact hk)⟩)
                have hkids : Kd.S k27 27 (wk.setCell ⟨(ad155.add ((t152).toNat * 3)).block, (ad155.add ((t152).toNat * 3)).off + 2, none⟩ (.slice A92 (((rd_T27 x136002_1 t152).f2).length + 1) c92)) w.heap.size (fun k_ => (some k_ ≠ (.slice (some ad131) y128.length co6 : Value).ownBlock ∧ some k_ ≠ (.slice Ao9 y132.length co9 : Value).ownBlock ∧ k_ ≠ gb127 ∧ k_ ≠ gb135)) (.slice (some ad155) x136002_1.length co75) (x136002_1.set (t152).toNat (⟨(rd_T27 x136002_1 t152).f0, (rd_T27 x136002_1 t152).f1, (rd_T27 x136002_1 t152).f2 ++ [(⟨(rdOf ByteArray.empty y128 (ji16)), x141001_2, ([] : List (S27))⟩ : S27)]⟩ : S27)) := by
                 have z := hseg.1
                 rw [HG1.out, add_at]
                 simp only [Nat.zero_add]
                 exact z
                have hset : (wk.setCell ⟨(ad155.add ((t152).toNat * 3)).block, (ad155.add ((t152).toNat * 3)).off + 2, none⟩ (.slice A92 (((rd_T27 x136002_1 t152).f2).length + 1) c92)) = wk.setCell ⟨g1, t152.toNat * 3 + 2, none⟩ (.slice A92 (((rd_T27 x136002_1 t152).f2).length + 1) c92) := by rw [HG1.out, add_at]; simp only [Nat.zero_add]
                have hng : g ≠ g1 := fun he => by have z := IsS63.own_neS HI0.out HO_136002.out (by decide); rw [he] at z; exact z hg1
                have HW1 : w.heap.size ≤ g1 := Kd.S_base HO_136002.out g1 hg1.symm
                have hf := (Kd.S_R HO_136002.out).1 g1 hg1.symm
                have h3 := Aside0.mk (show Kd.string.R 9 (wk.setCell ⟨g1, t152.toNat * 3 + 2, none⟩ (.slice A92 (((rd_T27 x136002_1 t152).f2).length + 1) c92)) w.heap.size (fun k_ => some k_ ≠ (.slice Ao9 y132.length co9 : Value).ownBlock) (.slice (some ad131) y128.length co6) y128 from Kd.R_mono (Kd.R_far (p := ⟨g1, t152.toNat * 3 + 2, none⟩) (Kd.R_far1 (Kd.R_below HO_3.out hB9) rfl hf.1) (fun k hk => hk.2) _) (fun k hk => hk.1.1))
                have h6 := Aside0.mk (show Kd.string.R 9 (wk.setCell ⟨g1, t152.toNat * 3 + 2, none⟩ (.slice A92 (((rd_T27 x136002_1 t152).f2).length + 1) c92)) w.heap.size (fun k_ => some k_ ≠ (.slice (some ad131) y128.length co6 : Value).ownBlock) (.slice Ao9 y132.length co9) y132 from Kd.R_mono (Kd.R_far (p := ⟨g1, t152.toNat * 3 + 2, none⟩) (Kd.R_far1 (Kd.R_below HO_136001.out hB9) rfl hf.2.1) (fun k hk => hk.2) _) (fun k hk => hk.1.1))
                have b7 := Aside0.mk (blk_far ((hB9.block _ (blk_lt BK127.out)).trans BK127.out) (p := ⟨g1, t152.toNat * 3 + 2, none⟩) (fun he => hf.2.2.2.1 he.symm) (.slice A92 (((rd_T27 x136002_1 t152).f2).length + 1) c92))
                have b5 := Aside0.mk (blk_far ((hB9.block _ (blk_lt BK135.out)).trans BK135.out) (p := ⟨g1, t152.toNat * 3 + 2, none⟩) (fun he => hf.2.2.2.2.1 he.symm) (.slice A92 (((rd_T27 x136002_1 t152).f2).length + 1) c92))
                have i0 := Aside0.mk (IsS63.far (IsS63.below HI0.out hB9) (p := ⟨g1, t152.toNat * 3 + 2, none⟩) hng (.slice A92 (((rd_T27 x136002_1 t152).f2).length + 1) c92))
                have hk_ := Aside0.mk (keep_far (HK.out.trans (KeepBut.of_below hB9 g none) (.inl rfl)) (p := ⟨g1, t152.toNat * 3 + 2, none⟩) HW1 (.slice A92 (((rd_T27 x136002_1 t152).f2).length + 1) c92))
                have hb_ := Aside0.mk (below_set (j := t152.toNat * 3 + 2) (v := (.slice A92 (((rd_T27 x136002_1 t152).f2).length + 1) c92)) (below_step HB.out hB9) (Nat.le_trans HW0.out HW1))
                rw [← hset] at h3 h6 b7 b5 i0 hk_ hb_
                have hs_ := Aside0.mk hkids
                clear hkids hseg hset hM' hRK
                generalize hz_ : (wk.setCell ⟨(ad155.add ((t152).toNat * 3)).block, (ad155.add ((t152).toNat * 3)).off + 2, none⟩ (.slice A92 (((rd_T27 x136002_1 t152).f2).length + 1) c92)) = wz at h3 h6 b7 b5 i0 hk_ hb_ hs_ ⊢
                clear hz_
                go_roundg k2
                case measure => have := HK1.out; have := HK2.out; omega
                case rel => exact ⟨wrap64 (x5_1 + 1), t153, t154, _, .slice (some ad155) x136002_1.length co75, z_3, H', ⟨z_36 HK1.out HK2.out⟩, h3, h6, ⟨Kd.S_mono hs_.out (fun _ hk => ⟨hk.1, hk.2.1, hk.2.2.1, hk.2.2.2⟩)⟩, b7, b5, i0, hk_, hb_⟩
             ·rw [if_neg c44] at H
              exact absurd H (by simp)
            ·rw [if_neg c43] at H
             exact absurd H (by simp)
           ·replace c41 := Bool.eq_false_iff.mpr c41
            subst c41
            have H1 : (if x136002_1.length < 2199023255552 then (spec_l22Draw.l0 k2 y128 (wrap64 (x5_1 + 1)) s0_0 t150 t151 (rdOf ByteArray.empty y128 0) y132 (x136002_1 ++ [(⟨(rdOf ByteArray.empty y128 (ji16)), x141001_2, ([] : List (S27))⟩ : S27)])) else (none)) = some (r1, r2, r3, r4, r5) := by rw [if_neg (show ¬ (false = true) by decide)] at H; exact H
            clear H
            have H := H1
            clear H1
            by_cases c79 : x136002_1.length < 2199023255552
            ·rw [if_pos c79] at H
             have LMc79 := Aside0.mk c79
             clear c79
             obtain ⟨y163, hy163⟩ : ∃ y_ : List (S27), y_ = (x136002_1 ++ [(⟨(rdOf ByteArray.empty y128 (ji16)), x141001_2, ([] : List (S27))⟩ : S27)]) := ⟨_, rfl⟩
             replace H : (spec_l22Draw.l0 k2 y128 (wrap64 (x5_1 + 1)) s0_0 t150 t151 (rdOf ByteArray.empty y128 0) y132 y163) = some (r1, r2, r3, r4, r5) := by first | (rw [hy163]; with_reducible exact H) | (have H2_ := (Option.bind_some _ _).symm.trans H; rw [hy163]; with_reducible exact H2_) | (have H2_ := (Option.bind_some _ _).symm.trans H; with_reducible exact H2_) | with_reducible exact H | (rw [hy163]; exact H) | exact H
             have Ny163 := Aside0.mk hy163
             clear hy163
             have H' := Aside0.mk H
             clear H
             have hnb80 := NB135_127.out
             have hnc80 := NB127_135.out
             have hnb81 := NB135_140.out
             have hnc81 := NB140_135.out
             have hnb82 := NB135_0.out
             have hnc82 := NB0_135.out
             have hcz83_0 : wr.cell? ⟨gb135, 0, none⟩ = some (.string (rdOf ByteArray.empty y128 0)) := (blk_cell BK135.out 0).trans rfl
             have hcz83_1 : wr.cell? ⟨gb135, 1, none⟩ = some (.slice Ao9 y132.length co9) := (blk_cell BK135.out 1).trans rfl
             have hcz83_2 : wr.cell? ⟨gb135, 2, none⟩ = some (u136002) := (blk_cell BK135.out 2).trans rfl
             have hfz83_0 := blk_frozen BK135.out 0
             have hfz83_1 := blk_frozen BK135.out 1
             have hfz83_2 := blk_frozen BK135.out 2
             obtain ⟨Ao84, co84, eo84⟩ := Kd.S_slice HO_136002.out
             subst eo84
             go_wp2_with (first | (go_at_call 49; (with_reducible refine (spec_l1Once.calls g s0_0 t142 t143 2 false t150 t151 w0 _ ?side1 ?side2 A40.out).mono ?_); (case side1 => exact z_29 HI0.out NB0_127.out NB0_135.out NB0_140.out); (case side2 => exact z_30 HB.out HI0.out GE127.out GE135.out GE140.out); rintro e w85 ⟨rfl, hi, hb, hk⟩; have n0_ := Aside0.mk (Kd.R_mono (Kd.R_keep (IsS63.apart (show IsS63 w0 _ g s0_0 t142 t143 from by repeat (first | (with_reducible first | exact HI0.out | apply IsS63.alloc | apply IsS63.drewN | apply IsS63.drew | apply IsS63.set_1 | apply IsS63.set_2 | refine IsS63.far ?_ NB0_127.out _ | refine IsS63.far ?_ NB0_135.out _ | refine IsS63.far ?_ NB0_140.out _) | exact HI0.out)) (z_17 HO_3.out) (by decide)) hk (fun _ h => h.2)) (fun _ h => h.1)); have n1_ := Aside0.mk (Kd.R_mono (Kd.R_keep (IsS63.apart (show IsS63 w0 _ g s0_0 t142 t143 from by repeat (first | (with_reducible first | exact HI0.out | apply IsS63.alloc | apply IsS63.drewN | apply IsS63.drew | apply IsS63.set_1 | apply IsS63.set_2 | refine IsS63.far ?_ NB0_127.out _ | refine IsS63.far ?_ NB0_135.out _ | refine IsS63.far ?_ NB0_140.out _) | exact HI0.out)) (z_17 HO_136001.out) (by decide)) hk (fun _ h => h.2)) (fun _ h => h.1)); have n2_ := Aside0.mk (Kd.S_mono (Kd.S_keep (IsS63.apartS (show IsS63 w0 _ g s0_0 t142 t143 from by repeat (first | (with_reducible first | exact HI0.out | apply IsS63.alloc | apply IsS63.drewN | apply IsS63.drew | apply IsS63.set_1 | apply IsS63.set_2 | refine IsS63.far ?_ NB0_127.out _ | refine IsS63.far ?_ NB0_135.out _ | refine IsS63.far ?_ NB0_140.out _) | exact HI0.out)) (z_27 HO_136002.out) (by decide)) hk (fun _ h => h.2)) (fun _ h => h.1)); have n3_ := Aside0.mk (Kd.R_mono (Kd.R_keep (IsS63.apart (show IsS63 w0 _ g s0_0 t142 t143 from by repeat (first | (with_reducible first | exact HI0.out | apply IsS63.alloc | apply IsS63.drewN | apply IsS63.drew | apply IsS63.set_1 | apply IsS63.set_2 | refine IsS63.far ?_ NB0_127.out _ | refine IsS63.far ?_ NB0_135.out _ | refine IsS63.far ?_ NB0_140.out _) | exact HI0.out)) (z_17 HO_141001.out) (by decide)) hk (fun _ h => h.2)) (fun _ h => h.1)); have n4_ := Aside0.mk (KeepBut.blk hk (g' := gb127) (o := .cells #[.string (⟨#[]⟩ : ByteArray), .slice none 0 0, .slice none 0 0] 27 (0, 0)) (z_7 BK127.out) NB127_0.out (by simp)); have n5_ := Aside0.mk (KeepBut.blk hk (g' := gb135) (o := .cells #[.string (rdOf ByteArray.empty y128 0), .slice Ao9 y132.length co9, .slice Ao84 x136002_1.length co84] 27 (0, 0)) (z_7 BK135.out) NB135_0.out (by simp)); have n6_ := Aside0.mk (KeepBut.blk hk (g' := gb140) (o := .cells #[.string (rdOf ByteArray.empty y128 (ji16)), u141001, .slice none 0 0] 27 (0, 0)) (z_7 BK140.out) NB140_0.out (by simp)); have n7_ := Aside0.mk (KeepBut.trans (z_32 HK.out GW127.out GW135.out GW140.out) hk (.inl rfl)); have n8_ := Aside0.mk (hb); have n9_ := Aside0.mk (hi); clear HO_3; clear HO_136001; clear HO_136002; clear HO_141001; clear BK127; clear BK135; clear BK140; clear HK; clear HB; clear HI0; have HO_3 := n0_; have HO_136001 := n1_; have HO_136002 := n2_; have HO_141001 := n3_; have BK127 := n4_; have BK135 := n5_; have BK140 := n6_; have HK := n7_; have HB := n8_; have HI0 := n9_; clear n0_ n1_ n2_ n3_ n4_ n5_ n6_ n7_ n8_ n9_; (try clear hb); (try clear hb2); (try clear hk); (try clear hi); have hcz86_0 : w85.cell? ⟨gb135, 0, none⟩ = some (.string (rdOf ByteArray.empty y128 0)) := (blk_cell BK135.out 0).trans rfl; have hcz86_1 : w85.cell? ⟨gb135, 1, none⟩ = some (.slice Ao9 y132.length co9) := (blk_cell BK135.out 1).trans rfl; have hcz86_2 : w85.cell? ⟨gb135, 2, none⟩ = some (.slice Ao84 x136002_1.length co84) := (blk_cell BK135.out 2).trans rfl; have hfz86_0 := blk_frozen BK135.out 0; have hfz86_1 := blk_frozen BK135.out 1; have hfz86_2 := blk_frozen BK135.out 2; have hnb87 := NB140_127.out; have hnc87 := NB127_140.out; have hnb88 := NB140_0.out; have hnc88 := NB0_140.out; have hcz89_0 : w85.cell? ⟨gb140, 0, none⟩ = some (.string (rdOf ByteArray.empty y128 (ji16))) := (blk_cell BK140.out 0).trans rfl; have hcz89_1 : w85.cell? ⟨gb140, 1, none⟩ = some (u141001) := (blk_cell BK140.out 1).trans rfl; have hcz89_2 : w85.cell? ⟨gb140, 2, none⟩ = some (.slice none 0 0) := (blk_cell BK140.out 2).trans rfl; have hfz89_0 := blk_frozen BK140.out 0; have hfz89_1 := blk_frozen BK140.out 1; have hfz89_2 := blk_frozen BK140.out 2; obtain ⟨Ao91, co91, eo91⟩ := Kd.R_slice HO_141001.out; subst eo91) | ((with_reducible refine gate_builtin (b := .append) (xs := #[.tmp 96, .tmp 98]) rfl ?_); at_builtin; refine Kd.S_append k27 w.heap.size rfl (.tmp 96) (.tmp 98) 25 27 (.agg #[(.string ⟨#[]⟩), (.slice none 0 0), (.slice none 0 0)]) 64 rfl Try.underlying25 info27 rfl (by decide) (by omega) (.slice Ao84 x136002_1.length co84) x136002_1 (⟨(rdOf ByteArray.empty y128 (ji16)), x141001_2, ([] : List (S27))⟩ : S27) [.string (rdOf ByteArray.empty y128 (ji16)), .slice Ao91 x141001_2.length co91, .slice none 0 0] (fun k_ => some k_ ≠ (.slice (some ad131) y128.length co6 : Value).ownBlock ∧ some k_ ≠ (.slice Ao9 y132.length co9 : Value).ownBlock ∧ k_ ≠ gb127 ∧ k_ ≠ gb135 ∧ k_ ≠ gb140) (fun k_ => some k_ = (.slice Ao91 x141001_2.length co91 : Value).ownBlock) rfl rfl ?aP (fun k_ hk_ => ((Kd.R_mono (ok' := fun k_ => ((fun k_ => some k_ ≠ (.slice (some ad131) y128.length co6 : Value).ownBlock ∧ some k_ ≠ (.slice Ao9 y132.length co9 : Value).ownBlock ∧ k_ ≠ gb127 ∧ k_ ≠ gb135 ∧ k_ ≠ gb140)) k_ ∧ some k_ ≠ (.slice Ao84 x136002_1.length co84 : Value).ownBlock) (Kd.R_types (Kd.R_types (Kd.R_types (Kd.R_apart' (HO_141001.out) (Kd.S_typed HO_136002.out) (by decide)) BK127.out (by decide)) BK135.out (by decide)) BK140.out (by decide)) (fun k_ hk => ⟨⟨hk.1.1.1.1.1, ⟨hk.1.1.1.1.2, ⟨hk.1.1.2, ⟨hk.1.2, hk.2⟩⟩⟩⟩, hk.1.1.1.2⟩))).1 k_ hk_.symm) ?aF ?aO (Below.refl _ _) ?aS ?aL ?_; (case aP => exact k27_mkM _ _ _ (⟨(rdOf ByteArray.empty y128 (ji16)), x141001_2, ([] : List (S27))⟩ : S27) (Kd.R_mono (Kd.R_tight rfl (Kd.R_mono (ok' := fun k_ => ((fun k_ => some k_ ≠ (.slice (some ad131) y128.length co6 : Value).ownBlock ∧ some k_ ≠ (.slice Ao9 y132.length co9 : Value).ownBlock ∧ k_ ≠ gb127 ∧ k_ ≠ gb135 ∧ k_ ≠ gb140)) k_ ∧ some k_ ≠ (.slice Ao84 x136002_1.length co84 : Value).ownBlock) (Kd.R_types (Kd.R_types (Kd.R_types (Kd.R_apart' (HO_141001.out) (Kd.S_typed HO_136002.out) (by decide)) BK127.out (by decide)) BK135.out (by decide)) BK140.out (by decide)) (fun k_ hk => ⟨⟨hk.1.1.1.1.1, ⟨hk.1.1.1.1.2, ⟨hk.1.1.2, ⟨hk.1.2, hk.2⟩⟩⟩⟩, hk.1.1.1.2⟩))) (fun _ h_ => h_)) (Kd.R_nil _ _ _ _ _)); (case aF => exact (fun k_ hk => ⟨Kd.fresh' (Kd.R_lt (z_17 HO_3.out)) k_ hk, Kd.fresh' (Kd.R_lt (z_17 HO_136001.out)) k_ hk, Kd.freshB (g := gb127) (o := .cells #[.string (⟨#[]⟩ : ByteArray), .slice none 0 0, .slice none 0 0] 27 (0, 0)) (z_7 BK127.out) k_ hk, Kd.freshB (g := gb135) (o := .cells #[.string (rdOf ByteArray.empty y128 0), .slice Ao9 y132.length co9, .slice Ao84 x136002_1.length co84] 27 (0, 0)) (z_7 BK135.out) k_ hk, Kd.freshB (g := gb140) (o := .cells #[.string (rdOf ByteArray.empty y128 (ji16)), .slice Ao91 x141001_2.length co91, .slice none 0 0] 27 (0, 0)) (z_7 BK140.out) k_ hk⟩)); (case aO => exact z_44 HO_136002.out); (case aS => exact (keep_size (w := w) (g := g) (row := none) (z_32 HK.out GW127.out GW135.out GW140.out))); (case aL => have := LMc79.out; omega); intro v164 w90 ho hb hg hat; rw [← Ny163.out] at ho; have n0_ := Aside0.mk (Kd.R_over' (z_17 HO_3.out) (Kd.S_typed (z_27 HO_136002.out)) (by decide) hg); have n1_ := Aside0.mk (Kd.R_over' (z_17 HO_136001.out) (Kd.S_typed (z_27 HO_136002.out)) (by decide) hg); have n2_ := Aside0.mk (blk_grown (g := gb127) (o := .cells #[.string (⟨#[]⟩ : ByteArray), .slice none 0 0, .slice none 0 0] 27 (0, 0)) (z_7 BK127.out) hg (Kd.S_away HO_136002.out (fun _ hk => hk.2.2.2.1))); have n3_ := Aside0.mk (blk_grown (g := gb135) (o := .cells #[.string (rdOf ByteArray.empty y128 0), .slice Ao9 y132.length co9, .slice Ao84 x136002_1.length co84] 27 (0, 0)) (z_7 BK135.out) hg (Kd.S_away HO_136002.out (fun _ hk => hk.2.2.2.2.1))); have n4_ := Aside0.mk (blk_grown (g := gb140) (o := .cells #[.string (rdOf ByteArray.empty y128 (ji16)), .slice Ao91 x141001_2.length co91, .slice none 0 0] 27 (0, 0)) (z_7 BK140.out) hg (Kd.S_away HO_136002.out (fun _ hk => hk.2.2.2.2.2))); have n5_ := Aside0.mk (IsS63.grown (z_29 HI0.out NB0_127.out NB0_135.out NB0_140.out) hg (IsS63.own_neS HI0.out HO_136002.out (by decide))); have n6_ := Aside0.mk (below_weaken (z_30 HB.out HI0.out GE127.out GE135.out GE140.out) HL.out hb); have n7_ := Aside0.mk (KeepBut.trans (z_32 HK.out GW127.out GW135.out GW140.out) (KeepBut.of_grown hg g) (Kd.S_base2 HO_136002.out)); have n8_ := Aside0.mk (ho); clear HO_3; clear HO_136001; clear BK127; clear BK135; clear BK140; clear HI0; clear HB; clear HK; clear HO_136002; clear HO_141001; have HO_3 := n0_; have HO_136001 := n1_; have BK127 := n2_; have BK135 := n3_; have BK140 := n4_; have HI0 := n5_; have HB := n6_; have HK := n7_; have HO165 := n8_; clear n0_ n1_ n2_ n3_ n4_ n5_ n6_ n7_ n8_; clear ho hb hg hat; obtain ⟨Ao92, co92, eo92⟩ := Kd.S_slice HO165.out; subst eo92; have hcz93_0 : w90.cell? ⟨gb135, 0, none⟩ = some (.string (rdOf ByteArray.empty y128 0)) := (blk_cell BK135.out 0).trans rfl; have hcz93_1 : w90.cell? ⟨gb135, 1, none⟩ = some (.slice Ao9 y132.length co9) := (blk_cell BK135.out 1).trans rfl; have hcz93_2 : w90.cell? ⟨gb135, 2, none⟩ = some (.slice Ao84 x136002_1.length co84) := (blk_cell BK135.out 2).trans rfl; have hfz93_0 := blk_frozen BK135.out 0; have hfz93_1 := blk_frozen BK135.out 1; have hfz93_2 := blk_frozen BK135.out 2))
             go_roundg k2
             case measure => have := HK1.out; have := HK2.out; omega
             case rel => exact ⟨(wrap64 (x5_1 + 1)), (t150), (t151), (y163), (.slice Ao92 y163.length co92), z_3, H', ⟨z_36 HK1.out HK2.out⟩, ⟨z_45 HO_3.out BK135.out⟩, ⟨z_45 HO_136001.out BK135.out⟩, ⟨by (with_reducible repeat (first | apply Kd.S_alloc | apply Kd.S_drewN | apply Kd.S_drew)); exact Kd.S_mono (Kd.S_far (p := ⟨gb135, 2, none⟩) (Kd.S_mono HO165.out (fun k_ hk => (⟨hk, hk.2.2.2.1⟩ : _ ∧ k_ ≠ gb135))) (fun _ hk => hk.2) (.slice Ao92 y163.length co92)) (fun _ hk => ⟨hk.1.1, ⟨hk.1.2.1, ⟨hk.1.2.2.1, hk.1.2.2.2.1⟩⟩⟩)⟩, ⟨z_38 NB127_135.out BK127.out⟩, ⟨by (with_reducible repeat (first | refine blk_drewN ?_ _ | refine blk_drew ?_ | refine blk_alloc ?_ _)); refine blk_put (cs := #[.string (rdOf ByteArray.empty y128 0), .slice Ao9 y132.length co9, .slice Ao84 x136002_1.length co84]) ?_ 2 _ rfl; (with_reducible repeat (first | refine blk_drewN ?_ _ | refine blk_drew ?_ | refine blk_alloc ?_ _)); exact BK135.out⟩, ⟨z_29 HI0.out NB0_127.out NB0_135.out NB0_140.out⟩, ⟨z_32 HK.out GW127.out GW135.out GW140.out⟩, ⟨z_30 HB.out HI0.out GE127.out GE135.out GE140.out⟩⟩
            ·rw [if_neg c79] at H
             exact absurd H (by simp)
          ·rw [if_neg c39] at H
           have c39b0 : decide (0 < (x136002_1.length : Int)) = false := decide_eq_false c39
           have c39b1 : decide (0 < x136002_1.length) = false := decide_eq_false (by omega)
           clear c39
           by_cases c94 : x136002_1.length < 2199023255552
           ·rw [if_pos c94] at H
            have LMc94 := Aside0.mk c94
            clear c94
            obtain ⟨y166, hy166⟩ : ∃ y_ : List (S27), y_ = (x136002_1 ++ [(⟨(rdOf ByteArray.empty y128 (ji16)), x141001_2, ([] : List (S27))⟩ : S27)]) := ⟨_, rfl⟩
            replace H : (spec_l22Draw.l0 k2 y128 (wrap64 (x5_1 + 1)) s0_0 t142 t143 (rdOf ByteArray.empty y128 0) y132 y166) = some (r1, r2, r3, r4, r5) := by first | (rw [hy166]; with_reducible exact H) | (have H2_ := (Option.bind_some _ _).symm.trans H; rw [hy166]; with_reducible exact H2_) | (have H2_ := (Option.bind_some _ _).symm.trans H; with_reducible exact H2_) | with_reducible exact H | (rw [hy166]; exact H) | exact H
            have Ny166 := Aside0.mk hy166
            clear hy166
            have H' := Aside0.mk H
            clear H
            have hnb95 := NB135_127.out
            have hnc95 := NB127_135.out
            have hnb96 := NB135_140.out
            have hnc96 := NB140_135.out
            have hnb97 := NB135_0.out
            have hnc97 := NB0_135.out
            have hcz98_0 : wr.cell? ⟨gb135, 0, none⟩ = some (.string (rdOf ByteArray.empty y128 0)) := (blk_cell BK135.out 0).trans rfl
            have hcz98_1 : wr.cell? ⟨gb135, 1, none⟩ = some (.slice Ao9 y132.length co9) := (blk_cell BK135.out 1).trans rfl
            have hcz98_2 : wr.cell? ⟨gb135, 2, none⟩ = some (u136002) := (blk_cell BK135.out 2).trans rfl
            have hfz98_0 := blk_frozen BK135.out 0
            have hfz98_1 := blk_frozen BK135.out 1
            have hfz98_2 := blk_frozen BK135.out 2
            obtain ⟨Ao99, co99, eo99⟩ := Kd.S_slice HO_136002.out
            subst eo99
            have hnb100 := NB140_127.out
            have hnc100 := NB127_140.out
            have hnb101 := NB140_0.out
            have hnc101 := NB0_140.out
            have hcz102_0 : wr.cell? ⟨gb140, 0, none⟩ = some (.string (rdOf ByteArray.empty y128 (ji16))) := (blk_cell BK140.out 0).trans rfl
            have hcz102_1 : wr.cell? ⟨gb140, 1, none⟩ = some (u141001) := (blk_cell BK140.out 1).trans rfl
            have hcz102_2 : wr.cell? ⟨gb140, 2, none⟩ = some (.slice none 0 0) := (blk_cell BK140.out 2).trans rfl
            have hfz102_0 := blk_frozen BK140.out 0
            have hfz102_1 := blk_frozen BK140.out 1
            have hfz102_2 := blk_frozen BK140.out 2
            obtain ⟨Ao104, co104, eo104⟩ := Kd.R_slice HO_141001.out
            subst eo104
            go_wp2_with (first | ((with_reducible refine gate_builtin (b := .append) (xs := #[.tmp 96, .tmp 98]) rfl ?_); at_builtin; refine Kd.S_append k27 w.heap.size rfl (.tmp 96) (.tmp 98) 25 27 (.agg #[(.string ⟨#[]⟩), (.slice none 0 0), (.slice none 0 0)]) 64 rfl Try.underlying25 info27 rfl (by decide) (by omega) (.slice Ao99 x136002_1.length co99) x136002_1 (⟨(rdOf ByteArray.empty y128 (ji16)), x141001_2, ([] : List (S27))⟩ : S27) [.string (rdOf ByteArray.empty y128 (ji16)), .slice Ao104 x141001_2.length co104, .slice none 0 0] (fun k_ => some k_ ≠ (.slice (some ad131) y128.length co6 : Value).ownBlock ∧ some k_ ≠ (.slice Ao9 y132.length co9 : Value).ownBlock ∧ k_ ≠ gb127 ∧ k_ ≠ gb135 ∧ k_ ≠ gb140) (fun k_ => some k_ = (.slice Ao104 x141001_2.length co104 : Value).ownBlock) rfl rfl ?aP (fun k_ hk_ => ((Kd.R_mono (ok' := fun k_ => ((fun k_ => some k_ ≠ (.slice (some ad131) y128.length co6 : Value).ownBlock ∧ some k_ ≠ (.slice Ao9 y132.length co9 : Value).ownBlock ∧ k_ ≠ gb127 ∧ k_ ≠ gb135 ∧ k_ ≠ gb140)) k_ ∧ some k_ ≠ (.slice Ao99 x136002_1.length co99 : Value).ownBlock) (Kd.R_types (Kd.R_types (Kd.R_types (Kd.R_apart' (HO_141001.out) (Kd.S_typed HO_136002.out) (by decide)) BK127.out (by decide)) BK135.out (by decide)) BK140.out (by decide)) (fun k_ hk => ⟨⟨hk.1.1.1.1.1, ⟨hk.1.1.1.1.2, ⟨hk.1.1.2, ⟨hk.1.2, hk.2⟩⟩⟩⟩, hk.1.1.1.2⟩))).1 k_ hk_.symm) ?aF ?aO (Below.refl _ _) ?aS ?aL ?_; (case aP => exact k27_mkM _ _ _ (⟨(rdOf ByteArray.empty y128 (ji16)), x141001_2, ([] : List (S27))⟩ : S27) (Kd.R_mono (Kd.R_tight rfl (Kd.R_mono (ok' := fun k_ => ((fun k_ => some k_ ≠ (.slice (some ad131) y128.length co6 : Value).ownBlock ∧ some k_ ≠ (.slice Ao9 y132.length co9 : Value).ownBlock ∧ k_ ≠ gb127 ∧ k_ ≠ gb135 ∧ k_ ≠ gb140)) k_ ∧ some k_ ≠ (.slice Ao99 x136002_1.length co99 : Value).ownBlock) (Kd.R_types (Kd.R_types (Kd.R_types (Kd.R_apart' (HO_141001.out) (Kd.S_typed HO_136002.out) (by decide)) BK127.out (by decide)) BK135.out (by decide)) BK140.out (by decide)) (fun k_ hk => ⟨⟨hk.1.1.1.1.1, ⟨hk.1.1.1.1.2, ⟨hk.1.1.2, ⟨hk.1.2, hk.2⟩⟩⟩⟩, hk.1.1.1.2⟩))) (fun _ h_ => h_)) (Kd.R_nil _ _ _ _ _)); (case aF => exact (fun k_ hk => ⟨Kd.fresh' (Kd.R_lt (z_17 HO_3.out)) k_ hk, Kd.fresh' (Kd.R_lt (z_17 HO_136001.out)) k_ hk, Kd.freshB (g := gb127) (o := .cells #[.string (⟨#[]⟩ : ByteArray), .slice none 0 0, .slice none 0 0] 27 (0, 0)) (z_7 BK127.out) k_ hk, Kd.freshB (g := gb135) (o := .cells #[.string (rdOf ByteArray.empty y128 0), .slice Ao9 y132.length co9, .slice Ao99 x136002_1.length co99] 27 (0, 0)) (z_7 BK135.out) k_ hk, Kd.freshB (g := gb140) (o := .cells #[.string (rdOf ByteArray.empty y128 (ji16)), .slice Ao104 x141001_2.length co104, .slice none 0 0] 27 (0, 0)) (z_7 BK140.out) k_ hk⟩)); (case aO => exact z_44 HO_136002.out); (case aS => exact (keep_size (w := w) (g := g) (row := none) (z_32 HK.out GW127.out GW135.out GW140.out))); (case aL => have := LMc94.out; omega); intro v167 w103 ho hb hg hat; rw [← Ny166.out] at ho; have n0_ := Aside0.mk (Kd.R_over' (z_17 HO_3.out) (Kd.S_typed (z_27 HO_136002.out)) (by decide) hg); have n1_ := Aside0.mk (Kd.R_over' (z_17 HO_136001.out) (Kd.S_typed (z_27 HO_136002.out)) (by decide) hg); have n2_ := Aside0.mk (blk_grown (g := gb127) (o := .cells #[.string (⟨#[]⟩ : ByteArray), .slice none 0 0, .slice none 0 0] 27 (0, 0)) (z_7 BK127.out) hg (Kd.S_away HO_136002.out (fun _ hk => hk.2.2.2.1))); have n3_ := Aside0.mk (blk_grown (g := gb135) (o := .cells #[.string (rdOf ByteArray.empty y128 0), .slice Ao9 y132.length co9, .slice Ao99 x136002_1.length co99] 27 (0, 0)) (z_7 BK135.out) hg (Kd.S_away HO_136002.out (fun _ hk => hk.2.2.2.2.1))); have n4_ := Aside0.mk (blk_grown (g := gb140) (o := .cells #[.string (rdOf ByteArray.empty y128 (ji16)), .slice Ao104 x141001_2.length co104, .slice none 0 0] 27 (0, 0)) (z_7 BK140.out) hg (Kd.S_away HO_136002.out (fun _ hk => hk.2.2.2.2.2))); have n5_ := Aside0.mk (IsS63.grown (z_29 HI0.out NB0_127.out NB0_135.out NB0_140.out) hg (IsS63.own_neS HI0.out HO_136002.out (by decide))); have n6_ := Aside0.mk (below_weaken (z_30 HB.out HI0.out GE127.out GE135.out GE140.out) HL.out hb); have n7_ := Aside0.mk (KeepBut.trans (z_32 HK.out GW127.out GW135.out GW140.out) (KeepBut.of_grown hg g) (Kd.S_base2 HO_136002.out)); have n8_ := Aside0.mk (ho); clear HO_3; clear HO_136001; clear BK127; clear BK135; clear BK140; clear HI0; clear HB; clear HK; clear HO_136002; clear HO_141001; have HO_3 := n0_; have HO_136001 := n1_; have BK127 := n2_; have BK135 := n3_; have BK140 := n4_; have HI0 := n5_; have HB := n6_; have HK := n7_; have HO168 := n8_; clear n0_ n1_ n2_ n3_ n4_ n5_ n6_ n7_ n8_; clear ho hb hg hat; obtain ⟨Ao105, co105, eo105⟩ := Kd.S_slice HO168.out; subst eo105; have hcz106_0 : w103.cell? ⟨gb135, 0, none⟩ = some (.string (rdOf ByteArray.empty y128 0)) := (blk_cell BK135.out 0).trans rfl; have hcz106_1 : w103.cell? ⟨gb135, 1, none⟩ = some (.slice Ao9 y132.length co9) := (blk_cell BK135.out 1).trans rfl; have hcz106_2 : w103.cell? ⟨gb135, 2, none⟩ = some (.slice Ao99 x136002_1.length co99) := (blk_cell BK135.out 2).trans rfl; have hfz106_0 := blk_frozen BK135.out 0; have hfz106_1 := blk_frozen BK135.out 1; have hfz106_2 := blk_frozen BK135.out 2))
            go_roundg k2
            case measure => have := HK1.out; have := HK2.out; omega
            case rel => exact ⟨(wrap64 (x5_1 + 1)), (t142), (t143), (y166), (.slice Ao105 y166.length co105), z_3, H', ⟨z_36 HK1.out HK2.out⟩, ⟨z_46 HO_3.out BK135.out⟩, ⟨z_46 HO_136001.out BK135.out⟩, ⟨by (with_reducible repeat (first | apply Kd.S_alloc | apply Kd.S_drewN | apply Kd.S_drew)); exact Kd.S_mono (Kd.S_far (p := ⟨gb135, 2, none⟩) (Kd.S_mono HO168.out (fun k_ hk => (⟨hk, hk.2.2.2.1⟩ : _ ∧ k_ ≠ gb135))) (fun _ hk => hk.2) (.slice Ao105 y166.length co105)) (fun _ hk => ⟨hk.1.1, ⟨hk.1.2.1, ⟨hk.1.2.2.1, hk.1.2.2.2.1⟩⟩⟩)⟩, ⟨z_38 NB127_135.out BK127.out⟩, ⟨by (with_reducible repeat (first | refine blk_drewN ?_ _ | refine blk_drew ?_ | refine blk_alloc ?_ _)); refine blk_put (cs := #[.string (rdOf ByteArray.empty y128 0), .slice Ao9 y132.length co9, .slice Ao99 x136002_1.length co99]) ?_ 2 _ rfl; (with_reducible repeat (first | refine blk_drewN ?_ _ | refine blk_drew ?_ | refine blk_alloc ?_ _)); exact BK135.out⟩, ⟨z_29 HI0.out NB0_127.out NB0_135.out NB0_140.out⟩, ⟨z_32 HK.out GW127.out GW135.out GW140.out⟩, ⟨z_30 HB.out HI0.out GE127.out GE135.out GE140.out⟩⟩
           ·rw [if_neg c94] at H
            exact absurd H (by simp)
      ·rw [if_neg c18] at H
       exact absurd H (by simp)
     ·rw [if_neg c17] at H
      exact absurd H (by simp)
    ·rw [if_neg c15] at H
     have c15b0 : decide (x5_1 < (wrap64 (2 + t136))) = false := decide_eq_false c15
     clear c15
     simp only [Option.some.injEq, Prod.mk.injEq] at H
     obtain ⟨rfl, rfl, rfl, rfl, rfl⟩ := H
     go_wp2_with (first | ((with_reducible refine gate_callee (f := 47) rfl ?_); refine gl_ 17 Try.func47 #[.pointer (some ⟨g, 0, none⟩), .int .i64 6] ?_; (with_reducible refine (spec_l1Below.calls g s0_0 x1001_1 x1002_1 6 t136 t137 t138 w0 _ ?side1 ?side2 A14.out).mono ?_); (case side1 => exact z_24 HI0.out NB0_127.out NB0_135.out); (case side2 => exact z_26 HB.out HI0.out GE127.out GE135.out); rintro e w107 ⟨rfl, hi, hb, hk⟩; refine ⟨_, rfl, ?_⟩; have n0_ := Aside0.mk (Kd.R_mono (Kd.R_keep (IsS63.apart (show IsS63 w0 _ g s0_0 x1001_1 x1002_1 from by repeat (first | (with_reducible first | exact HI0.out | apply IsS63.alloc | apply IsS63.drewN | apply IsS63.drew | apply IsS63.set_1 | apply IsS63.set_2 | refine IsS63.far ?_ NB0_127.out _ | refine IsS63.far ?_ NB0_135.out _) | exact HI0.out)) (z_17 HO_3.out) (by decide)) hk (fun _ h => h.2)) (fun _ h => h.1)); have n1_ := Aside0.mk (Kd.R_mono (Kd.R_keep (IsS63.apart (show IsS63 w0 _ g s0_0 x1001_1 x1002_1 from by repeat (first | (with_reducible first | exact HI0.out | apply IsS63.alloc | apply IsS63.drewN | apply IsS63.drew | apply IsS63.set_1 | apply IsS63.set_2 | refine IsS63.far ?_ NB0_127.out _ | refine IsS63.far ?_ NB0_135.out _) | exact HI0.out)) (z_17 HO_136001.out) (by decide)) hk (fun _ h => h.2)) (fun _ h => h.1)); have n2_ := Aside0.mk (Kd.S_mono (Kd.S_keep (IsS63.apartS (show IsS63 w0 _ g s0_0 x1001_1 x1002_1 from by repeat (first | (with_reducible first | exact HI0.out | apply IsS63.alloc | apply IsS63.drewN | apply IsS63.drew | apply IsS63.set_1 | apply IsS63.set_2 | refine IsS63.far ?_ NB0_127.out _ | refine IsS63.far ?_ NB0_135.out _) | exact HI0.out)) (z_27 HO_136002.out) (by decide)) hk (fun _ h => h.2)) (fun _ h => h.1)); have n3_ := Aside0.mk (KeepBut.blk hk (g' := gb127) (o := .cells #[.string (⟨#[]⟩ : ByteArray), .slice none 0 0, .slice none 0 0] 27 (0, 0)) (z_7 BK127.out) NB127_0.out (by simp)); have n4_ := Aside0.mk (KeepBut.blk hk (g' := gb135) (o := .cells #[.string (rdOf ByteArray.empty y128 0), .slice Ao9 y132.length co9, u136002] 27 (0, 0)) (z_7 BK135.out) NB135_0.out (by simp)); have n5_ := Aside0.mk (KeepBut.trans (z_25 HK.out GW127.out GW135.out) hk (.inl rfl)); have n6_ := Aside0.mk (hb); have n7_ := Aside0.mk (hi); clear HO_3; clear HO_136001; clear HO_136002; clear BK127; clear BK135; clear HK; clear HB; clear HI0; have HO_3 := n0_; have HO_136001 := n1_; have HO_136002 := n2_; have BK127 := n3_; have BK135 := n4_; have HK := n5_; have HB := n6_; have HI0 := n7_; clear n0_ n1_ n2_ n3_ n4_ n5_ n6_ n7_; (try clear hb); (try clear hb2); (try clear hk); (try clear hi); have hnb108 := NB135_127.out; have hnc108 := NB127_135.out; have hnb109 := NB135_0.out; have hnc109 := NB0_135.out; have hcz110_0 : w107.cell? ⟨gb135, 0, none⟩ = some (.string (rdOf ByteArray.empty y128 0)) := (blk_cell BK135.out 0).trans rfl; have hcz110_1 : w107.cell? ⟨gb135, 1, none⟩ = some (.slice Ao9 y132.length co9) := (blk_cell BK135.out 1).trans rfl; have hcz110_2 : w107.cell? ⟨gb135, 2, none⟩ = some (u136002) := (blk_cell BK135.out 2).trans rfl; have hfz110_0 := blk_frozen BK135.out 0; have hfz110_1 := blk_frozen BK135.out 1; have hfz110_2 := blk_frozen BK135.out 2; have hnb111 := NB127_0.out; have hnc111 := NB0_127.out; have hcz112_0 : w107.cell? ⟨gb127, 0, none⟩ = some (.string (⟨#[]⟩ : ByteArray)) := (blk_cell BK127.out 0).trans rfl; have hcz112_1 : w107.cell? ⟨gb127, 1, none⟩ = some (.slice none 0 0) := (blk_cell BK127.out 1).trans rfl; have hcz112_2 : w107.cell? ⟨gb127, 2, none⟩ = some (.slice none 0 0) := (blk_cell BK127.out 2).trans rfl; have hfz112_0 := blk_frozen BK127.out 0; have hfz112_1 := blk_frozen BK127.out 1; have hfz112_2 := blk_frozen BK127.out 2; obtain ⟨Ao113, co113, eo113⟩ := Kd.S_slice HO_136002.out; subst eo113))
     refine bodyPost_ret (results_cell_row rfl _ _ gb127 27 #[.string (rdOf ByteArray.empty y128 0), .slice Ao9 y132.length co9, .slice Ao113 x136002_1.length co113] (0, 0) _ rfl (z_23 BK127.out) Try.underlying27 rfl (by kernel_rfl)) rfl ?_
     exact ⟨_, _, z_9, by (with_reducible repeat (first | apply Kd.R_alloc | apply Kd.R_drewN | apply Kd.R_drew)); exact Kd.R_mono (Kd.R_far (p := ⟨gb127, 2, none⟩) (Kd.R_far (p := ⟨gb127, 1, none⟩) (Kd.R_far (p := ⟨gb127, 0, none⟩) (Kd.R_types HO_136001.out BK127.out (by decide)) (fun _ hk => hk.2) (.string (rdOf ByteArray.empty y128 0))) (fun _ hk => hk.2) (.slice Ao9 y132.length co9)) (fun _ hk => hk.2) (.slice Ao113 x136002_1.length co113)) (fun _ hk => trivial), by (with_reducible repeat (first | apply Kd.S_alloc | apply Kd.S_drewN | apply Kd.S_drew)); exact Kd.S_mono (Kd.S_far (p := ⟨gb127, 2, none⟩) (Kd.S_far (p := ⟨gb127, 1, none⟩) (Kd.S_far (p := ⟨gb127, 0, none⟩) (Kd.S_mono HO_136002.out (fun k_ hk => (⟨hk, hk.2.2.1⟩ : _ ∧ k_ ≠ gb127))) (fun _ hk => hk.2) (.string (rdOf ByteArray.empty y128 0))) (fun _ hk => hk.2) (.slice Ao9 y132.length co9)) (fun _ hk => hk.2) (.slice Ao113 x136002_1.length co113)) (fun _ hk => hk.1.2.1), z_24 HI0.out NB0_127.out NB0_135.out, z_26 HB.out HI0.out GE127.out GE135.out, z_25 HK.out GW127.out GW135.out⟩
 ·rw [if_neg c2] at H
  exact absurd H (by simp)
theorem spec_l22Draw.calls (k : Nat) (g : Nat) (s0_0 : List Int) (s0_1 : Int) (s0_2 : Int) (r1 : ByteArray) (r2 : List ByteArray) (r3 : List (S27)) (r4 : Int) (r5 : Int) (w0 w : World) (hI : IsS63 w0 w g s0_0 s0_1 s0_2) (hB : Below w0.heap.size w0 w) (h : spec_l22Draw.f k s0_0 s0_1 s0_2 = some (r1, r2, r3, r4, r5)) : Calls Try.prog 26 #[.pointer (some ⟨g, 0, none⟩)] w fun e w' => ∃ v1_ v2_ : Value, e = .returned (.agg #[.string r1, v1_, v2_]) ∧ Kd.R Kd.string 9 w' w.heap.size (fun _ => True) v1_ r2 ∧ Kd.R k27 27 w' w.heap.size (fun k_ => some k_ ≠ (v1_ : Value).ownBlock) v2_ r3 ∧ IsS63 w0 w' g s0_0 r4 r5 ∧ Below w0.heap.size w0 w' ∧ KeepBut w w' g none := by
 refine (spec_l22Draw.calls0 k _ _ _ _ _ _ _ _ _ _ _ hI hB h).mono ?_
 rintro e w' ⟨v1, v2, he, h1, h2, hr⟩
 exact ⟨v1, v2, he, h1, Kd.S_R h2, hr⟩
end Go.Proofs.Ytdphpmejjlgpnaa.PFnLaidOver
