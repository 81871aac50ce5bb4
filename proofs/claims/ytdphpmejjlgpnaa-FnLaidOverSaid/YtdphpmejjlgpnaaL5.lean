import Derived.Test.YtdphpmejjlgpnaaL0
import Derived.Test.YtdphpmejjlgpnaaL3
import Derived.Test.YtdphpmejjlgpnaaL4
import Derived.Test.YtdphpmejjlgpnaaLZ
namespace Go.Proofs.Ytdphpmejjlgpnaa.PFnLaidOver
open Go.RowKit Go.Proofs.YtdphpmejjlgpnaaW.PrintWords Go.Proofs.YtdphpmejjlgpnaaW.PrintLast Go.Proofs.YtdphpmejjlgpnaaW.PrintMore
attribute [local go_sem] max2_int min2_int max_two min_two max_three min_three max_four min_four
def impl_unlike.f (a0 : List ByteArray) : Option Bool := if a0.length < 8796093022208 then some (decide (a0.map fun s => s.data.toList).Nodup) else none
section
open Go.Sort
theorem own_strs {w : World} {base : Nat} {ok : Nat → Prop} {v : Value} {xs : List ByteArray} (h : Kd.R Kd.string 9 w base ok v xs) : w.ownsRow base 9 1 v xs.length ((xs.map fun s => s.data.toList).map encStr) := by
 obtain ⟨_, inner, h1, h2, h3⟩ := h
 have : inner = (xs.map fun s => s.data.toList).map encStr := by
  apply List.ext_getElem
  ·simp only [List.length_map]; exact h2.trans (Nat.mul_one _)
  ·intro j hj hj'
   have hj2 : j < xs.length := by simpa using hj'
   have h4 : List.take 1 (List.drop (j * 1) inner) = [Value.string xs[j]] := h3 j xs[j] (List.getElem?_eq_getElem hj2)
   rw [Nat.mul_one, List.drop_eq_getElem_cons hj] at h4
   simp only [List.take_succ_cons, List.take_zero, List.cons.injEq, and_true] at h4
   rw [h4]
   simp [encStr]
 rw [← this]
 exact h1
theorem adj_nodup : ∀ l : List (List UInt8), l.Pairwise (· ≤ ·) → ((∀ j, j + 1 < l.length → l[j + 1]! ≠ l[j]!) ↔ l.Nodup) := by
 intro l
 induction l with
 | nil => intro _; simp
 | cons a t ih =>
  intro h
  rw [List.pairwise_cons] at h
  rw [List.nodup_cons, ← ih h.2]
  constructor
  ·intro hj
   refine ⟨fun ha => ?_, fun j hjl => ?_⟩
   ·cases t with
    | nil => cases ha
    | cons b u =>
     have h1 : b ≠ a := by simpa using hj 0 (by simp)
     have h2 : a ≤ b := h.1 b (by simp)
     have h3 : b ≤ a := by
      rcases List.mem_cons.mp ha with rfl | hm
      ·exact h2
      ·exact (List.pairwise_cons.mp h.2).1 a hm
     exact h1 (List.le_antisymm h3 h2)
   ·have := hj (j + 1) (by simp; omega)
    simpa using this
  ·rintro ⟨ha, hj⟩ j hjl
   cases j with
   | zero =>
    cases t with
    | nil => simp at hjl
    | cons b u =>
     intro e
     apply ha
     have e2 : b = a := by simpa using e
     rw [← e2]; simp
   | succ j =>
    have := hj j (by simp at hjl; omega)
    simpa using this
theorem sorted_nodup (l : List (List UInt8)) : (Lib.compact (l.mergeSort fun x y => decide (x ≤ y))).length = l.length ↔ l.Nodup := by
 have hs : (l.mergeSort fun x y => decide (x ≤ y)).Pairwise (· ≤ ·) := by
  have := List.pairwise_mergeSort (le := fun x y : List UInt8 => decide (x ≤ y)) (fun a b c h1 h2 => by simp only [decide_eq_true_eq] at *; exact List.le_trans h1 h2) (fun a b => by simp only [Bool.or_eq_true, decide_eq_true_eq]; exact List.le_total a b) l
  exact this.imp (by simp)
 have hp := List.mergeSort_perm l fun x y => decide (x ≤ y)
 rw [← hp.nodup_iff, ← adj_nodup _ hs, ← hp.length_eq]
 generalize (l.mergeSort fun x y => decide (x ≤ y)) = m
 unfold Lib.compact Lib.compactUpTo
 rw [List.length_map]
 have h1 : ((List.range m.length).filter (Lib.keeps m.toArray)).length = m.length ↔ ∀ j ∈ List.range m.length, Lib.keeps m.toArray j = true := by
  rw [← List.filter_eq_self]
  constructor
  ·intro h
   exact List.Sublist.eq_of_length List.filter_sublist (by simpa using h)
  ·intro h; rw [h]; simp
 rw [h1]
 constructor
 ·intro h j hj
  have := h (j + 1) (by simpa using hj)
  simpa [Lib.keeps] using this
 ·intro h j hj
  cases j with
  | zero => simp [Lib.keeps]
  | succ j => have := h j (by simpa using hj); simpa [Lib.keeps] using this
theorem bool_len (a b : Nat) (p : Prop) [Decidable p] (h : a = b ↔ p) : ((a : Int) == (b : Int)) = decide p := by
 rw [Bool.eq_iff_iff]
 simp only [beq_iff_eq, decide_eq_true_eq]
 rw [← h]
 omega
set_option maxHeartbeats 1000000 in
theorem impl_unlike.calls (A0 : Option Addr) (c0 : Nat) (l0 : List ByteArray) (r : Bool) (w : World) (hr0 : Kd.C Kd.string w A0 l0.length l0) (hc0 : l0.length ≤ c0) (h : impl_unlike.f l0 = some r) :
 Calls Try.prog 51 #[.slice A0 l0.length c0] w fun e w' => e = .returned (.bool r) ∧ Below w.heap.size w w' := by
 unfold impl_unlike.f at h
 by_cases hl : l0.length < 8796093022208
 ·rw [if_pos hl] at h
  obtain rfl := Option.some.inj h
  have hcopy := impl_copyTexts.calls A0 c0 l0 l0 w hr0 hc0 (by simp [impl_copyTexts.f, hl])
  have HC := Lib.hid hcopy
  clear hcopy h hr0 hc0
  generalize hn : l0.length = n at *
  have hlen : (l0.map fun s => s.data.toList).length = n := by simp [hn]
  have HN := Lib.hid hn
  have HL := Lib.hid hlen
  have HF := Lib.hid (bool_len _ _ _ (sorted_nodup (l0.map fun s => s.data.toList)))
  clear hn hlen
  go_enter Try.func51, Try.ntmps51
  go_wp2_with fail
  refine HC.out.mono ?_; rintro e w1 ⟨v1, rfl, hR, hbel⟩
  have hown := own_strs hR
  rw [HN.out] at hown
  clear hR HC
  by_cases hnil : v1 = .slice none 0 0
  ·subst hnil
   have hz : n = 0 := by
    rcases hown.2 with ⟨_, h0⟩ | ⟨g, cap, cur, h0, _⟩
    ·exact h0
    ·cases h0
   subst hz
   clear hown
   obtain rfl : l0 = [] := List.length_eq_zero_iff.mp HN.out
   clear HN HL HF
   go_wp2_with fail
   refine (Try.slices_Sort_string_none _ _ _).mono ?_; rintro e w2 ⟨rfl, rfl⟩
   go_wp2_with fail
   refine (Try.slices_Compact_string_empty _ _ _).mono ?_; rintro e w2 ⟨rfl, rfl⟩
   go_wp2
   go_ret
   exact ⟨rfl, hbel⟩
  ·obtain ⟨g, cap, rfl, hbg, hgl, hncap, hcm, _, hH⟩ := Lib.holds_of_ownsRow hown hnil
   have hsort := Try.slices_Sort_string g 0 cap _ w1 hH hgl (by rw [HL.out]; omega)
   rw [HL.out] at hsort
   have HS := Lib.hid hsort
   have X := Lib.hid (And.intro hbel hH)
   clear hsort hH hnil hown hbel
   go_wp2_with fail
   refine HS.out.mono ?_; rintro e w2 ⟨rfl, nn, os, rfl⟩
   clear HS
   have hl2 : ((l0.map fun s => s.data.toList).mergeSort fun x y => decide (x ≤ y)).length = n := by rw [List.length_mergeSort]; exact HL.out
   have hH2 := holds_grow encStr _ os g 0 _ (by simpa [putRow, mapBlock, Sort.ahead] using hgl) (holds_putRow encStr _ g 0 _ ((l0.map fun s => s.data.toList).mergeSort fun x y => decide (x ≤ y)).toArray (holds_ahead encStr w1 nn g 0 _ X.out.2) (by simp))
   have hcomp := Try.slices_Compact_string g 0 cap _ _ hH2 (by rw [hl2]; omega) (by rw [hl2]; omega)
   rw [hl2] at hcomp
   have HM := Lib.hid hcomp
   have H2 := Lib.hid hl2
   clear hcomp hH2 hl2
   have hgw : w1.grownBy (grow (putRow encStr (Sort.ahead w1 nn) g 0 ((l0.map fun s => s.data.toList).mergeSort fun x y => decide (x ≤ y)).toArray) os) (some g) := grownBy_sorted _
   have HB2 := Lib.hid (X.out.1.grown hgw X.out.1.size (fun j hj => by cases hj; exact hbg))
   clear hgw
   generalize grow (putRow encStr (Sort.ahead w1 nn) g 0 ((l0.map fun s => s.data.toList).mergeSort fun x y => decide (x ≤ y)).toArray) os = w2 at *
   go_wp2_with fail
   refine HM.out.mono ?_; rintro e w3 ⟨rfl, q, rfl⟩
   go_wp2
   go_ret
   refine ⟨?_, Lib.below_putRow HB2.out hbg⟩
   have z := HF.out
   rw [HL.out] at z
   rw [← z]
   rfl
 ·rw [if_neg hl] at h; cases h
end
mutual
def impl_modsOf.l0 : Nat → List ByteArray → List (S27) → Int → Int → Option (List ByteArray)
 | 0, _, _, _, _ => none
 | k + 1, x3, x10, x11, x12 => if x12 < x11 then (if 0 ≤ x12 then (if x12 < (x10.length : Int) then ((impl_modsOf.f k ((rd_T27 x10 x12).f0) ((rd_T27 x10 x12).f1) ((rd_T27 x10 x12).f2)).bind fun t232 => (if x3.length + t232.length < 8796093022208 then (impl_modsOf.l0 k (x3 ++ t232) x10 x11 (wrap64 (x12 + 1))) else (none))) else (none)) else (none)) else (some x3)
def impl_modsOf.f : Nat → ByteArray → List ByteArray → List (S27) → Option (List ByteArray)
 | 0, _, _, _ => none
 | k + 1, a0_0, l0_1, l0_2 => (impl_copyTexts.f l0_1).bind fun t227 => (impl_modsOf.l0 k t227 l0_2 (l0_2.length : Int) 0)
end
theorem impl_modsOf.mono_l : ∀ k, (∀ y0 y1 y2, LeO (impl_modsOf.f k y0 y1 y2) (impl_modsOf.f (k + 1) y0 y1 y2)) ∧ (∀ y0 y1 y2 y3, LeO (impl_modsOf.l0 k y0 y1 y2 y3) (impl_modsOf.l0 (k + 1) y0 y1 y2 y3))
 | 0 => ⟨fun _ _ _ r h => by simp [impl_modsOf.f] at h, fun _ _ _ _ r h => by simp [impl_modsOf.l0] at h⟩
 | k + 1 => by
  obtain ⟨ih0, ih1⟩ := impl_modsOf.mono_l k
  refine ⟨?_, ?_⟩
  ·intro y0 y1 y2
   unfold impl_modsOf.f
   repeat' first
   | (with_reducible exact ih0 _ _ _)
   | (with_reducible exact ih1 _ _ _ _)
   | (with_reducible exact LeO.refl _)
   | (with_reducible exact LeO.none _)
   | (with_reducible refine LeO.ite ?_ ?_)
   | (with_reducible refine LeO.bind ?_ (fun _ => ?_))
   | exact ih0 _ _ _
   | exact ih1 _ _ _ _
   | exact LeO.none _
   | refine LeO.ite ?_ ?_
   | refine LeO.bind ?_ (fun _ => ?_)
  ·intro y0 y1 y2 y3
   unfold impl_modsOf.l0
   repeat' first
   | (with_reducible exact ih0 _ _ _)
   | (with_reducible exact ih1 _ _ _ _)
   | (with_reducible exact LeO.refl _)
   | (with_reducible exact LeO.none _)
   | (with_reducible refine LeO.ite ?_ ?_)
   | (with_reducible refine LeO.bind ?_ (fun _ => ?_))
   | exact ih0 _ _ _
   | exact ih1 _ _ _ _
   | exact LeO.none _
   | refine LeO.ite ?_ ?_
   | refine LeO.bind ?_ (fun _ => ?_)
theorem impl_modsOf.mono : ∀ a0 a1 a2 k, LeO (impl_modsOf.f k a0 a1 a2) (impl_modsOf.f (k + 1) a0 a1 a2) := by
 intro a0 a1 a2 k
 obtain ⟨ih0, ih1⟩ := impl_modsOf.mono_l k
 exact ih0 a0 a1 a2
set_option maxHeartbeats 8000000 in
set_option maxRecDepth 100000 in
theorem impl_modsOf.calls (k : Nat) : ∀ (a0_0 : ByteArray) (A0_1 : Option Addr) (c0_1 : Nat) (l0_1 : List ByteArray) (A0_2 : Option Addr) (c0_2 : Nat) (l0_2 : List (S27)) (r : List ByteArray) (w : World) (hr0_1 : Kd.C Kd.string w A0_1 l0_1.length l0_1) (hc0_1 : l0_1.length ≤ c0_1) (hr0_2 : Kd.C k27 w A0_2 l0_2.length l0_2) (hc0_2 : l0_2.length ≤ c0_2) (h : impl_modsOf.f k a0_0 l0_1 l0_2 = some r),
 Calls Try.prog 52 #[.agg #[.string a0_0, .slice A0_1 l0_1.length c0_1, .slice A0_2 l0_2.length c0_2]] w fun e w' => ∃ v0_ : Value, e = .returned (v0_) ∧ Kd.R Kd.string 9 w' w.heap.size (fun _ => True) v0_ r ∧ Below w.heap.size w w' := by
 induction k using Nat.strongRecOn with
 | _ k ih =>
 intro a0_0 A0_1 c0_1 l0_1 A0_2 c0_2 l0_2 r w hr0_1 hc0_1 hr0_2 hc0_2 h
 cases k with
 | zero => exact absurd h (by simp [impl_modsOf.f])
 | succ k =>
 simp only [impl_modsOf.f] at h
 have hu27 := Try.underlying27
 have HR0_1 := Aside0.mk hr0_1
 have HC0_1 := Aside0.mk hc0_1
 clear hr0_1 hc0_1
 have HR0_2 := Aside0.mk hr0_2
 have HC0_2 := Aside0.mk hc0_2
 clear hr0_2 hc0_2
 have HB := Aside0.mk (Below.refl w.heap.size w)
 have H : ((impl_copyTexts.f l0_1).bind fun t227 => (impl_modsOf.l0 k t227 l0_2 (l0_2.length : Int) 0)) = some r := h
 clear h
 replace H := Option.bind_eq_some_iff.mp H
 obtain ⟨t227, A20, H⟩ := H
 replace H : (impl_modsOf.l0 k t227 l0_2 (l0_2.length : Int) 0) = some r := H
 have A2 := Aside0.mk A20
 clear A20
 have H' := Aside0.mk H
 clear H
 go_enter Try.func52, Try.ntmps52
 go_wp2_with (first | ((with_reducible refine gate_dst (N := 1) rfl ?_); refine box_event ?hg (N := 1) ?hd (cs := #[.string a0_0, .slice A0_1 l0_1.length c0_1, .slice A0_2 l0_2.length c0_2]) (t := 27) ?hr ?_; (case hd => rfl); (case hg => rfl); (case hr => first | (go_simp; done) | (go_simp; rfl)); intro gb226 hg w3 hbox hb; have n0_ := Aside0.mk (below_step (z_4 HB.out) hb); have n1_ := Aside0.mk (hbox); have n2_ := Aside0.mk ((z_6 HB.out : w.heap.size ≤ gb226)); have n3_ := Aside0.mk ((z_6 HB.out : w.heap.size ≤ gb226)); clear HB; have HB := n0_; have BK226 := n1_; have GW226 := n2_; have GE226 := n3_; clear n0_ n1_ n2_ n3_; clear hb hbox hg; have hcz4_0 : w3.cell? ⟨gb226, 0, none⟩ = some (.string a0_0) := (blk_cell BK226.out 0).trans rfl; have hcz4_1 : w3.cell? ⟨gb226, 1, none⟩ = some (.slice A0_1 l0_1.length c0_1) := (blk_cell BK226.out 1).trans rfl; have hcz4_2 : w3.cell? ⟨gb226, 2, none⟩ = some (.slice A0_2 l0_2.length c0_2) := (blk_cell BK226.out 2).trans rfl; have hfz4_0 := blk_frozen BK226.out 0; have hfz4_1 := blk_frozen BK226.out 1; have hfz4_2 := blk_frozen BK226.out 2) | ((with_reducible refine gate_callee (f := 57) rfl ?_); refine gl_ 8 Try.func57 #[.slice A0_1 l0_1.length c0_1] ?_; (with_reducible refine (impl_copyTexts.calls _ _ l0_1 t227 _ ?side1 ?side2 A2.out).mono ?_); (case side1 => exact z_62 HR0_1.out HB.out); (case side2 => exact HC0_1.out); rintro e w5 ⟨v228, rfl, ho0, hb⟩; refine ⟨_, rfl, ?_⟩; have n0_ := Aside0.mk (Kd.R_lower ho0 (below_size (z_8 HB.out GE226.out))); have n1_ := Aside0.mk (blk_below (g := gb226) (o := .cells #[.string a0_0, .slice A0_1 l0_1.length c0_1, .slice A0_2 l0_2.length c0_2] 27 (0, 0)) (z_7 BK226.out) hb); have n2_ := Aside0.mk (below_step (z_8 HB.out GE226.out) hb); clear BK226; clear HB; have HO229 := n0_; have BK226 := n1_; have HB := n2_; clear n0_ n1_ n2_; (try clear hb); (try clear hb2); (try clear hk); (try clear hi); (try clear ho0); have hcz6_0 : w5.cell? ⟨gb226, 0, none⟩ = some (.string a0_0) := (blk_cell BK226.out 0).trans rfl; have hcz6_1 : w5.cell? ⟨gb226, 1, none⟩ = some (.slice A0_1 l0_1.length c0_1) := (blk_cell BK226.out 1).trans rfl; have hcz6_2 : w5.cell? ⟨gb226, 2, none⟩ = some (.slice A0_2 l0_2.length c0_2) := (blk_cell BK226.out 2).trans rfl; have hfz6_0 := blk_frozen BK226.out 0; have hfz6_1 := blk_frozen BK226.out 1; have hfz6_2 := blk_frozen BK226.out 2))
 go_loopg [3, 12] k (fun kq v3 v12 w' => ∃ (x3_1 : List ByteArray) (x12_1 : Int), v12 = .int .i64 x12_1 ∧ Aside0 (impl_modsOf.l0 kq x3_1 l0_2 (l0_2.length : Int) x12_1 = some r) ∧ Aside0 (kq ≤ k) ∧ Aside0 (Kd.R Kd.string 9 w' w.heap.size (fun _ => True) v3 x3_1) ∧ Aside0 (w'.heap[gb226]? = some (.cells #[.string a0_0, (.slice A0_1 l0_1.length c0_1), (.slice A0_2 l0_2.length c0_2)] 27 (0, 0))) ∧ Aside0 (Below w.heap.size w w'))
 case atStart => exact ⟨(t227), (0), z_3, H', ⟨Nat.le_refl _⟩, ⟨z_17 HO229.out⟩, ⟨z_7 BK226.out⟩, ⟨z_8 HB.out GE226.out⟩⟩
 case round =>
  clear H'
  try clear p2
  try clear c5
  try clear hcz4_0
  try clear hcz4_1
  try clear hcz4_2
  try clear hcz6_0
  try clear hcz6_1
  try clear hcz6_2
  try clear hfz4_0
  try clear hfz4_1
  try clear hfz4_2
  try clear hfz6_0
  try clear hfz6_1
  try clear hfz6_2
  obtain ⟨x3_1, x12_1, rfl, HA, HK1, HO_3, BK226, HB⟩ := hrel
  cases gk with
  | zero => exact absurd HA.out (by simp [impl_modsOf.l0])
  | succ k1 =>
   have H := HA.out
   clear HA
   simp only [impl_modsOf.l0] at H
   by_cases c7 : x12_1 < (l0_2.length : Int)
   ·rw [if_pos c7] at H
    have c7b0 : decide (x12_1 < (l0_2.length : Int)) = true := decide_eq_true c7
    clear c7
    by_cases c8 : 0 ≤ x12_1
    ·rw [if_pos c8] at H
     have c8b0 : decide (0 ≤ x12_1) = true := decide_eq_true c8
     clear c8
     by_cases c9 : x12_1 < (l0_2.length : Int)
     ·rw [if_pos c9] at H
      have c9b0 : decide (x12_1 < (l0_2.length : Int)) = true := decide_eq_true c9
      clear c9
      replace H := Option.bind_eq_some_iff.mp H
      obtain ⟨t232, A100, H⟩ := H
      replace H : (if x3_1.length + t232.length < 8796093022208 then (impl_modsOf.l0 k1 (x3_1 ++ t232) l0_2 (l0_2.length : Int) (wrap64 (x12_1 + 1))) else (none)) = some r := H
      have A10 := Aside0.mk A100
      clear A100
      by_cases c11 : x3_1.length + t232.length < 8796093022208
      ·rw [if_pos c11] at H
       have LMc11 := Aside0.mk c11
       clear c11
       obtain ⟨y235, hy235⟩ : ∃ y_ : List ByteArray, y_ = (x3_1 ++ t232) := ⟨_, rfl⟩
       replace H : (impl_modsOf.l0 k1 y235 l0_2 (l0_2.length : Int) (wrap64 (x12_1 + 1))) = some r := by first | (rw [hy235]; with_reducible exact H) | (have H2_ := (Option.bind_some _ _).symm.trans H; rw [hy235]; with_reducible exact H2_) | (have H2_ := (Option.bind_some _ _).symm.trans H; with_reducible exact H2_) | with_reducible exact H | (rw [hy235]; exact H) | exact H
       have Ny235 := Aside0.mk hy235
       clear hy235
       have H' := Aside0.mk H
       clear H
       have p230 : 0 ≤ (x12_1 : Int) := of_decide_eq_true z_5
       have q230 : x12_1 < (l0_2.length : Int) := of_decide_eq_true z_5
       obtain ⟨ad230, A230_1, c230_1, A230_2, c230_2, e230, hx230_0, hx230_1, hx230_2, hl230_1, hi230_1, hl230_2, hi230_2⟩ := at_T27 HR0_2.out x12_1 p230 q230
       cases e230
       replace hx230_0 := (HB.out.cell (World.block_lt_of_cell? w _ hx230_0)).trans hx230_0
       replace hx230_1 := (HB.out.cell (World.block_lt_of_cell? w _ hx230_1)).trans hx230_1
       replace hx230_2 := (HB.out.cell (World.block_lt_of_cell? w _ hx230_2)).trans hx230_2
       have HR230_1 := Aside0.mk hi230_1
       have HC230_1 := Aside0.mk hl230_1
       clear hi230_1 hl230_1
       have HR230_2 := Aside0.mk hi230_2
       have HC230_2 := Aside0.mk hl230_2
       clear hi230_2 hl230_2
       replace p230 := eq_true p230
       replace q230 := eq_true q230
       go_wp2_with (first | ((with_reducible refine gate_dst (N := 5) rfl ?_); refine box_event ?hg (N := 5) ?hd (cs := #[.string (⟨#[]⟩ : ByteArray), .slice none 0 0, .slice none 0 0]) (t := 27) ?hr ?_; (case hd => rfl); (case hg => rfl); (case hr => first | (go_simp; done) | (go_simp; rfl)); intro gb231 hg w12 hbox hb; have n0_ := Aside0.mk (Kd.R_below (z_17 HO_3.out) hb); have n1_ := Aside0.mk (blk_below (g := gb226) (o := .cells #[.string a0_0, .slice A0_1 l0_1.length c0_1, .slice (some ad230) l0_2.length c0_2] 27 (0, 0)) (z_7 BK226.out) hb); have n2_ := Aside0.mk (below_step (z_8 HB.out GE226.out) hb); have n3_ := Aside0.mk (hbox); have n4_ := Aside0.mk ((z_54 HB.out GE226.out : w.heap.size ≤ gb231)); have n5_ := Aside0.mk ((z_54 HB.out GE226.out : w.heap.size ≤ gb231)); have n6_ := Aside0.mk ((by rw [hg]; exact Nat.ne_of_lt (blk_lt (g := gb226) (o := .cells #[.string a0_0, .slice A0_1 l0_1.length c0_1, .slice (some ad230) l0_2.length c0_2] 27 (0, 0)) (z_7 BK226.out)) : gb226 ≠ gb231)); have n7_ := Aside0.mk ((by rw [hg]; exact Nat.ne_of_gt (blk_lt (g := gb226) (o := .cells #[.string a0_0, .slice A0_1 l0_1.length c0_1, .slice (some ad230) l0_2.length c0_2] 27 (0, 0)) (z_7 BK226.out)) : gb231 ≠ gb226)); clear HO_3; clear BK226; clear HB; have HO_3 := n0_; have BK226 := n1_; have HB := n2_; have BK231 := n3_; have GW231 := n4_; have GE231 := n5_; have NB226_231 := n6_; have NB231_226 := n7_; clear n0_ n1_ n2_ n3_ n4_ n5_ n6_ n7_; clear hb hbox hg; have hnb13 := NB231_226.out; have hnc13 := NB226_231.out; have hcz14_0 : w12.cell? ⟨gb231, 0, none⟩ = some (.string (⟨#[]⟩ : ByteArray)) := (blk_cell BK231.out 0).trans rfl; have hcz14_1 : w12.cell? ⟨gb231, 1, none⟩ = some (.slice none 0 0) := (blk_cell BK231.out 1).trans rfl; have hcz14_2 : w12.cell? ⟨gb231, 2, none⟩ = some (.slice none 0 0) := (blk_cell BK231.out 2).trans rfl; have hfz14_0 := blk_frozen BK231.out 0; have hfz14_1 := blk_frozen BK231.out 1; have hfz14_2 := blk_frozen BK231.out 2) | ((with_reducible refine gate_callee (f := 52) rfl ?_); refine gl_ 18 Try.func52 #[.agg #[.string ((rd_T27 l0_2 x12_1).f0), .slice A230_1 ((rd_T27 l0_2 x12_1).f1).length c230_1, .slice A230_2 ((rd_T27 l0_2 x12_1).f2).length c230_2]] ?_; (with_reducible refine (ih k1 (by have := HK1.out; omega) ((rd_T27 l0_2 x12_1).f0) _ _ ((rd_T27 l0_2 x12_1).f1) _ _ ((rd_T27 l0_2 x12_1).f2) t232 _ ?side1 ?side2 ?side3 ?side4 A10.out).mono ?_); (case side1 => exact Kd.C_below HR230_1.out (z_55 HB.out GE226.out GE231.out)); (case side2 => exact HC230_1.out); (case side3 => exact Kd.C_below HR230_2.out (z_55 HB.out GE226.out GE231.out)); (case side4 => exact HC230_2.out); rintro e w15 ⟨v233, rfl, ho0, hb⟩; refine ⟨_, rfl, ?_⟩; have n0_ := Aside0.mk (Kd.R_elder' (z_63 HO_3.out BK231.out) (Kd.R_base ho0) hb); have n1_ := Aside0.mk (Kd.R_lower (Kd.R_new' ho0 (Kd.R_lt (z_63 HO_3.out BK231.out))) (below_size (z_55 HB.out GE226.out GE231.out))); have n2_ := Aside0.mk (blk_below (g := gb226) (o := .cells #[.string a0_0, .slice A0_1 l0_1.length c0_1, .slice (some ad230) l0_2.length c0_2] 27 (0, 0)) (z_22 NB226_231.out BK226.out) hb); have n3_ := Aside0.mk (blk_below (g := gb231) (o := .cells #[.string ((rd_T27 l0_2 x12_1).f0), .slice A230_1 ((rd_T27 l0_2 x12_1).f1).length c230_1, .slice A230_2 ((rd_T27 l0_2 x12_1).f2).length c230_2] 27 (0, 0)) (by (with_reducible repeat (first | refine blk_drewN ?_ _ | refine blk_drew ?_ | refine blk_alloc ?_ _)); refine blk_put (cs := #[.string ((rd_T27 l0_2 x12_1).f0), .slice A230_1 ((rd_T27 l0_2 x12_1).f1).length c230_1, .slice none 0 0]) ?_ 2 _ rfl; (with_reducible repeat (first | refine blk_drewN ?_ _ | refine blk_drew ?_ | refine blk_alloc ?_ _)); refine blk_put (cs := #[.string ((rd_T27 l0_2 x12_1).f0), .slice none 0 0, .slice none 0 0]) ?_ 1 _ rfl; (with_reducible repeat (first | refine blk_drewN ?_ _ | refine blk_drew ?_ | refine blk_alloc ?_ _)); refine blk_put (cs := #[.string (⟨#[]⟩ : ByteArray), .slice none 0 0, .slice none 0 0]) ?_ 0 _ rfl; (with_reducible repeat (first | refine blk_drewN ?_ _ | refine blk_drew ?_ | refine blk_alloc ?_ _)); exact BK231.out) hb); have n4_ := Aside0.mk (below_step (z_55 HB.out GE226.out GE231.out) hb); clear HO_3; clear BK226; clear BK231; clear HB; have HO_3 := n0_; have HO234 := n1_; have BK226 := n2_; have BK231 := n3_; have HB := n4_; clear n0_ n1_ n2_ n3_ n4_; (try clear hb); (try clear hb2); (try clear hk); (try clear hi); (try clear ho0); obtain ⟨Ao17, co17, eo17⟩ := Kd.R_slice HO234.out; subst eo17) | ((with_reducible refine gate_builtin (b := .append) (xs := #[.tmp 16, .tmp 18]) rfl ?_); at_builtin; refine Kd.R_append_rows Kd.string (w0 := w) w.heap.size rfl (.tmp 16) (.tmp 18) 24 9 (.string ⟨#[]⟩) 16 rfl Try.underlying24 info9 rfl (by decide) (by omega) u3 x3_1 t232 _ _ _ (fun k_ => some k_ ≠ (.slice Ao17 t232.length co17 : Value).ownBlock) (fun _ => False) rfl rfl ?aO ?aR (fun _ _ h => h) (fun _ h => h.elim) ?aF ?aB ?aS ?aL ?_; (case aR => exact z_47 HO234.out); (case aB => exact z_55 HB.out GE226.out GE231.out); (case aF => exact (fun k_ hk => Kd.fresh' (Kd.R_lt (z_17 HO234.out)) k_ hk)); (case aO => exact z_48 HO_3.out); (case aS => exact (below_size (z_55 HB.out GE226.out GE231.out))); (case aL => have := LMc11.out; omega); intro v236 w16 ho hb hg hat; rw [← Ny235.out] at ho; have n0_ := Aside0.mk (blk_grown (g := gb226) (o := .cells #[.string a0_0, .slice A0_1 l0_1.length c0_1, .slice (some ad230) l0_2.length c0_2] 27 (0, 0)) (z_7 BK226.out) hg (Kd.R_ne HO_3.out BK226.out (by decide))); have n1_ := Aside0.mk (blk_grown (g := gb231) (o := .cells #[.string ((rd_T27 l0_2 x12_1).f0), .slice A230_1 ((rd_T27 l0_2 x12_1).f1).length c230_1, .slice A230_2 ((rd_T27 l0_2 x12_1).f2).length c230_2] 27 (0, 0)) (z_7 BK231.out) hg (Kd.R_ne HO_3.out BK231.out (by decide))); have n2_ := Aside0.mk (Kd.R_after (ok := (fun _ => True)) (z_17 HO234.out) hg hat); have n3_ := Aside0.mk (hb); have n4_ := Aside0.mk (ho); clear BK226; clear BK231; clear HO234; clear HB; clear HO_3; have BK226 := n0_; have BK231 := n1_; have HO234 := n2_; have HB := n3_; have HO237 := n4_; clear n0_ n1_ n2_ n3_ n4_; clear ho hb hg hat))
       go_roundg k1
       case measure => have := HK1.out; omega
       case rel => exact ⟨(y235), (wrap64 (x12_1 + 1)), z_3, H', ⟨by have := HK1.out; omega⟩, ⟨z_49 HO237.out⟩, ⟨z_7 BK226.out⟩, ⟨z_55 HB.out GE226.out GE231.out⟩⟩
      ·rw [if_neg c11] at H
       exact absurd H (by simp)
     ·rw [if_neg c9] at H
      exact absurd H (by simp)
    ·rw [if_neg c8] at H
     exact absurd H (by simp)
   ·rw [if_neg c7] at H
    have c7b0 : decide (x12_1 < (l0_2.length : Int)) = false := decide_eq_false c7
    clear c7
    obtain rfl := Option.some.inj H
    go_wp2
    go_ret
    exact ⟨_, z_9, z_17 HO_3.out, z_8 HB.out GE226.out⟩
def impl_SegOk.f (k : Nat) (a0_0 : ByteArray) (l0_1 : List ByteArray) (l0_2 : List (S27)) : Option (Bool) := (impl_treeOk.f k a0_0 l0_1 l0_2 4).bind fun t239 => (if t239 = true then ((impl_Segs.f k a0_0 l0_1 l0_2).bind fun t240 => (if (t240.length : Int) ≤ 12 then ((impl_Segs.f k a0_0 l0_1 l0_2).bind fun t243 => ((impl_unlike.f t243).bind fun t246 => (if t246 = true then ((impl_modsOf.f k a0_0 l0_1 l0_2).bind fun t247 => ((impl_unlike.f t247).bind fun t250 => (some t250))) else (some false)))) else (some false))) else (some false))
theorem impl_SegOk.mono : ∀ a0 a1 a2 k, LeO (impl_SegOk.f k a0 a1 a2) (impl_SegOk.f (k + 1) a0 a1 a2) := by
 intro a0 a1 a2 k
 unfold impl_SegOk.f
 repeat' first
  | (with_reducible exact impl_Segs.mono _ _ _ _)
  | (with_reducible exact impl_modsOf.mono _ _ _ _)
  | (with_reducible exact impl_treeOk.mono _ _ _ _ _)
  | (with_reducible exact LeO.refl _)
  | (with_reducible exact LeO.none _)
  | (with_reducible refine LeO.ite ?_ ?_)
  | (with_reducible refine LeO.bind ?_ (fun _ => ?_))
  | exact impl_Segs.mono _ _ _ _
  | exact impl_modsOf.mono _ _ _ _
  | exact impl_treeOk.mono _ _ _ _ _
  | exact LeO.none _
  | refine LeO.ite ?_ ?_
  | refine LeO.bind ?_ (fun _ => ?_)
set_option maxHeartbeats 8000000 in
set_option maxRecDepth 100000 in
theorem impl_SegOk.calls (k : Nat) (a0_0 : ByteArray) (A0_1 : Option Addr) (c0_1 : Nat) (l0_1 : List ByteArray) (A0_2 : Option Addr) (c0_2 : Nat) (l0_2 : List (S27)) (r : Bool) (w : World) (hr0_1 : Kd.C Kd.string w A0_1 l0_1.length l0_1) (hc0_1 : l0_1.length ≤ c0_1) (hr0_2 : Kd.C k27 w A0_2 l0_2.length l0_2) (hc0_2 : l0_2.length ≤ c0_2) (h : impl_SegOk.f k a0_0 l0_1 l0_2 = some r) :
 Calls Try.prog 28 #[.agg #[.string a0_0, .slice A0_1 l0_1.length c0_1, .slice A0_2 l0_2.length c0_2]] w fun e w' => e = .returned (.bool r) ∧ Below w.heap.size w w' := by
 have hu27 := Try.underlying27
 have HR0_1 := Aside0.mk hr0_1
 have HC0_1 := Aside0.mk hc0_1
 clear hr0_1 hc0_1
 have HR0_2 := Aside0.mk hr0_2
 have HC0_2 := Aside0.mk hc0_2
 clear hr0_2 hc0_2
 have HB := Aside0.mk (Below.refl w.heap.size w)
 have H : ((impl_treeOk.f k a0_0 l0_1 l0_2 4).bind fun t239 => (if t239 = true then ((impl_Segs.f k a0_0 l0_1 l0_2).bind fun t240 => (if (t240.length : Int) ≤ 12 then ((impl_Segs.f k a0_0 l0_1 l0_2).bind fun t243 => ((impl_unlike.f t243).bind fun t246 => (if t246 = true then ((impl_modsOf.f k a0_0 l0_1 l0_2).bind fun t247 => ((impl_unlike.f t247).bind fun t250 => (some t250))) else (some false)))) else (some false))) else (some false))) = some r := h
 clear h
 replace H := Option.bind_eq_some_iff.mp H
 obtain ⟨t239, A20, H⟩ := H
 replace H : (if t239 = true then ((impl_Segs.f k a0_0 l0_1 l0_2).bind fun t240 => (if (t240.length : Int) ≤ 12 then ((impl_Segs.f k a0_0 l0_1 l0_2).bind fun t243 => ((impl_unlike.f t243).bind fun t246 => (if t246 = true then ((impl_modsOf.f k a0_0 l0_1 l0_2).bind fun t247 => ((impl_unlike.f t247).bind fun t250 => (some t250))) else (some false)))) else (some false))) else (some false)) = some r := H
 have A2 := Aside0.mk A20
 clear A20
 by_cases c3 : t239 = true
 ·subst c3
  have H1 : ((impl_Segs.f k a0_0 l0_1 l0_2).bind fun t240 => (if (t240.length : Int) ≤ 12 then ((impl_Segs.f k a0_0 l0_1 l0_2).bind fun t243 => ((impl_unlike.f t243).bind fun t246 => (if t246 = true then ((impl_modsOf.f k a0_0 l0_1 l0_2).bind fun t247 => ((impl_unlike.f t247).bind fun t250 => (some t250))) else (some false)))) else (some false))) = some r := by rw [if_pos rfl] at H; exact H
  clear H
  have H := H1
  clear H1
  replace H := Option.bind_eq_some_iff.mp H
  obtain ⟨t240, A40, H⟩ := H
  replace H : (if (t240.length : Int) ≤ 12 then ((impl_Segs.f k a0_0 l0_1 l0_2).bind fun t243 => ((impl_unlike.f t243).bind fun t246 => (if t246 = true then ((impl_modsOf.f k a0_0 l0_1 l0_2).bind fun t247 => ((impl_unlike.f t247).bind fun t250 => (some t250))) else (some false)))) else (some false)) = some r := H
  have A4 := Aside0.mk A40
  clear A40
  by_cases c5 : (t240.length : Int) ≤ 12
  ·rw [if_pos c5] at H
   have c5b0 : decide ((t240.length : Int) ≤ 12) = true := decide_eq_true c5
   have c5b1 : decide (t240.length ≤ 12) = true := decide_eq_true (by omega)
   clear c5
   replace H := Option.bind_eq_some_iff.mp H
   obtain ⟨t243, A60, H⟩ := H
   replace H : ((impl_unlike.f t243).bind fun t246 => (if t246 = true then ((impl_modsOf.f k a0_0 l0_1 l0_2).bind fun t247 => ((impl_unlike.f t247).bind fun t250 => (some t250))) else (some false))) = some r := H
   have A6 := Aside0.mk A60
   clear A60
   replace H := Option.bind_eq_some_iff.mp H
   obtain ⟨t246, A70, H⟩ := H
   replace H : (if t246 = true then ((impl_modsOf.f k a0_0 l0_1 l0_2).bind fun t247 => ((impl_unlike.f t247).bind fun t250 => (some t250))) else (some false)) = some r := H
   have A7 := Aside0.mk A70
   clear A70
   by_cases c8 : t246 = true
   ·subst c8
    have H1 : ((impl_modsOf.f k a0_0 l0_1 l0_2).bind fun t247 => ((impl_unlike.f t247).bind fun t250 => (some t250))) = some r := by rw [if_pos rfl] at H; exact H
    clear H
    have H := H1
    clear H1
    replace H := Option.bind_eq_some_iff.mp H
    obtain ⟨t247, A90, H⟩ := H
    replace H : ((impl_unlike.f t247).bind fun t250 => (some t250)) = some r := H
    have A9 := Aside0.mk A90
    clear A90
    replace H := Option.bind_eq_some_iff.mp H
    obtain ⟨t250, A100, H⟩ := H
    replace H : (some t250) = some r := H
    have A10 := Aside0.mk A100
    clear A100
    obtain rfl := Option.some.inj H
    go_enter Try.func28, Try.ntmps28
    go_wp2_with (first | ((with_reducible refine gate_dst (N := 1) rfl ?_); (try (refine gate_guard (by rfl) ?_; dsimp only)); refine box_event ?hg (N := 1) ?hd (cs := #[.string a0_0, .slice A0_1 l0_1.length c0_1, .slice A0_2 l0_2.length c0_2]) (t := 27) ?hr ?_; (case hd => rfl); (case hg => rfl); (case hr => first | (go_simp; done) | (go_simp; rfl)); intro gb238 hg w11 hbox hb; have n0_ := Aside0.mk (below_step (z_4 HB.out) hb); have n1_ := Aside0.mk (hbox); have n2_ := Aside0.mk ((z_6 HB.out : w.heap.size ≤ gb238)); have n3_ := Aside0.mk ((z_6 HB.out : w.heap.size ≤ gb238)); clear HB; have HB := n0_; have BK238 := n1_; have GW238 := n2_; have GE238 := n3_; clear n0_ n1_ n2_ n3_; clear hb hbox hg; have hcz12_0 : w11.cell? ⟨gb238, 0, none⟩ = some (.string a0_0) := (blk_cell BK238.out 0).trans rfl; have hcz12_1 : w11.cell? ⟨gb238, 1, none⟩ = some (.slice A0_1 l0_1.length c0_1) := (blk_cell BK238.out 1).trans rfl; have hcz12_2 : w11.cell? ⟨gb238, 2, none⟩ = some (.slice A0_2 l0_2.length c0_2) := (blk_cell BK238.out 2).trans rfl; have hfz12_0 := blk_frozen BK238.out 0; have hfz12_1 := blk_frozen BK238.out 1; have hfz12_2 := blk_frozen BK238.out 2) | ((with_reducible refine gate_callee (f := 50) rfl ?_); refine gl_ 4 Try.func50 #[.agg #[.string a0_0, .slice A0_1 l0_1.length c0_1, .slice A0_2 l0_2.length c0_2], .int .i64 4] ?_; (with_reducible refine (impl_treeOk.calls k a0_0 _ _ l0_1 _ _ l0_2 4 true _ ?side1 ?side2 ?side3 ?side4 A2.out).mono ?_); (case side1 => exact z_62 HR0_1.out HB.out); (case side2 => exact HC0_1.out); (case side3 => exact z_62 HR0_2.out HB.out); (case side4 => exact HC0_2.out); rintro e w13 ⟨rfl, hb⟩; refine ⟨_, rfl, ?_⟩; have n0_ := Aside0.mk (blk_below (g := gb238) (o := .cells #[.string a0_0, .slice A0_1 l0_1.length c0_1, .slice A0_2 l0_2.length c0_2] 27 (0, 0)) (z_7 BK238.out) hb); have n1_ := Aside0.mk (below_step (z_8 HB.out GE238.out) hb); clear BK238; clear HB; have BK238 := n0_; have HB := n1_; clear n0_ n1_; (try clear hb); (try clear hb2); (try clear hk); (try clear hi); have hcz14_0 : w13.cell? ⟨gb238, 0, none⟩ = some (.string a0_0) := (blk_cell BK238.out 0).trans rfl; have hcz14_1 : w13.cell? ⟨gb238, 1, none⟩ = some (.slice A0_1 l0_1.length c0_1) := (blk_cell BK238.out 1).trans rfl; have hcz14_2 : w13.cell? ⟨gb238, 2, none⟩ = some (.slice A0_2 l0_2.length c0_2) := (blk_cell BK238.out 2).trans rfl; have hfz14_0 := blk_frozen BK238.out 0; have hfz14_1 := blk_frozen BK238.out 1; have hfz14_2 := blk_frozen BK238.out 2) | (go_at_call 10; (with_reducible refine (impl_Segs.calls k a0_0 _ _ l0_1 _ _ l0_2 t240 _ ?side1 ?side2 ?side3 ?side4 A4.out).mono ?_); (case side1 => exact z_62 HR0_1.out HB.out); (case side2 => exact HC0_1.out); (case side3 => exact z_62 HR0_2.out HB.out); (case side4 => exact HC0_2.out); rintro e w15 ⟨v241, rfl, ho0, hb⟩; (try clear A4); have n0_ := Aside0.mk (Kd.R_lower ho0 (below_size (z_8 HB.out GE238.out))); have n1_ := Aside0.mk (blk_below (g := gb238) (o := .cells #[.string a0_0, .slice A0_1 l0_1.length c0_1, .slice A0_2 l0_2.length c0_2] 27 (0, 0)) (z_7 BK238.out) hb); have n2_ := Aside0.mk (below_step (z_8 HB.out GE238.out) hb); clear BK238; clear HB; have HO242 := n0_; have BK238 := n1_; have HB := n2_; clear n0_ n1_ n2_; (try clear hb); (try clear hb2); (try clear hk); (try clear hi); (try clear ho0); obtain ⟨Ao16, co16, eo16⟩ := Kd.R_slice HO242.out; subst eo16; have hcz17_0 : w15.cell? ⟨gb238, 0, none⟩ = some (.string a0_0) := (blk_cell BK238.out 0).trans rfl; have hcz17_1 : w15.cell? ⟨gb238, 1, none⟩ = some (.slice A0_1 l0_1.length c0_1) := (blk_cell BK238.out 1).trans rfl; have hcz17_2 : w15.cell? ⟨gb238, 2, none⟩ = some (.slice A0_2 l0_2.length c0_2) := (blk_cell BK238.out 2).trans rfl; have hfz17_0 := blk_frozen BK238.out 0; have hfz17_1 := blk_frozen BK238.out 1; have hfz17_2 := blk_frozen BK238.out 2) | (go_at_call 10; (with_reducible refine (impl_Segs.calls k a0_0 _ _ l0_1 _ _ l0_2 t243 _ ?side1 ?side2 ?side3 ?side4 A6.out).mono ?_); (case side1 => exact z_62 HR0_1.out HB.out); (case side2 => exact HC0_1.out); (case side3 => exact z_62 HR0_2.out HB.out); (case side4 => exact HC0_2.out); rintro e w18 ⟨v244, rfl, ho0, hb⟩; (try clear A6); have n0_ := Aside0.mk (Kd.R_elder' (z_17 HO242.out) (Kd.R_base ho0) hb); have n1_ := Aside0.mk (Kd.R_lower (Kd.R_new' ho0 (Kd.R_lt (z_17 HO242.out))) (below_size (z_8 HB.out GE238.out))); have n2_ := Aside0.mk (blk_below (g := gb238) (o := .cells #[.string a0_0, .slice A0_1 l0_1.length c0_1, .slice A0_2 l0_2.length c0_2] 27 (0, 0)) (z_7 BK238.out) hb); have n3_ := Aside0.mk (below_step (z_8 HB.out GE238.out) hb); clear HO242; clear BK238; clear HB; have HO242 := n0_; have HO245 := n1_; have BK238 := n2_; have HB := n3_; clear n0_ n1_ n2_ n3_; (try clear hb); (try clear hb2); (try clear hk); (try clear hi); (try clear ho0); obtain ⟨Ao19, co19, eo19⟩ := Kd.R_slice HO245.out; subst eo19) | (go_at_call 51; (with_reducible refine (impl_unlike.calls _ _ t243 true _ ?side1 ?side2 A7.out).mono ?_); (case side1 => exact z_47 HO245.out); (case side2 => exact (Kd.R_reads' HO245.out).2.1); rintro e w20 ⟨rfl, hb⟩; (try clear A7); have n0_ := Aside0.mk (Kd.R_below (z_17 HO242.out) hb); have n1_ := Aside0.mk (Kd.R_below (z_17 HO245.out) hb); have n2_ := Aside0.mk (blk_below (g := gb238) (o := .cells #[.string a0_0, .slice A0_1 l0_1.length c0_1, .slice A0_2 l0_2.length c0_2] 27 (0, 0)) (z_7 BK238.out) hb); have n3_ := Aside0.mk (below_step (z_8 HB.out GE238.out) hb); clear HO242; clear HO245; clear BK238; clear HB; have HO242 := n0_; have HO245 := n1_; have BK238 := n2_; have HB := n3_; clear n0_ n1_ n2_ n3_; (try clear hb); (try clear hb2); (try clear hk); (try clear hi); have hcz21_0 : w20.cell? ⟨gb238, 0, none⟩ = some (.string a0_0) := (blk_cell BK238.out 0).trans rfl; have hcz21_1 : w20.cell? ⟨gb238, 1, none⟩ = some (.slice A0_1 l0_1.length c0_1) := (blk_cell BK238.out 1).trans rfl; have hcz21_2 : w20.cell? ⟨gb238, 2, none⟩ = some (.slice A0_2 l0_2.length c0_2) := (blk_cell BK238.out 2).trans rfl; have hfz21_0 := blk_frozen BK238.out 0; have hfz21_1 := blk_frozen BK238.out 1; have hfz21_2 := blk_frozen BK238.out 2) | (go_at_call 52; (with_reducible refine (impl_modsOf.calls k a0_0 _ _ l0_1 _ _ l0_2 t247 _ ?side1 ?side2 ?side3 ?side4 A9.out).mono ?_); (case side1 => exact z_62 HR0_1.out HB.out); (case side2 => exact HC0_1.out); (case side3 => exact z_62 HR0_2.out HB.out); (case side4 => exact HC0_2.out); rintro e w22 ⟨v248, rfl, ho0, hb⟩; have n0_ := Aside0.mk (Kd.R_elder' (z_17 HO242.out) (Kd.R_base ho0) hb); have n1_ := Aside0.mk (Kd.R_elder' (z_17 HO245.out) (Kd.R_base ho0) hb); have n2_ := Aside0.mk (Kd.R_lower (Kd.R_new' (Kd.R_new' ho0 (Kd.R_lt (z_17 HO242.out))) (Kd.R_lt (z_17 HO245.out))) (below_size (z_8 HB.out GE238.out))); have n3_ := Aside0.mk (blk_below (g := gb238) (o := .cells #[.string a0_0, .slice A0_1 l0_1.length c0_1, .slice A0_2 l0_2.length c0_2] 27 (0, 0)) (z_7 BK238.out) hb); have n4_ := Aside0.mk (below_step (z_8 HB.out GE238.out) hb); clear HO242; clear HO245; clear BK238; clear HB; have HO242 := n0_; have HO245 := n1_; have HO249 := n2_; have BK238 := n3_; have HB := n4_; clear n0_ n1_ n2_ n3_ n4_; (try clear hb); (try clear hb2); (try clear hk); (try clear hi); (try clear ho0); obtain ⟨Ao23, co23, eo23⟩ := Kd.R_slice HO249.out; subst eo23) | (go_at_call 51; (with_reducible refine (impl_unlike.calls _ _ t247 t250 _ ?side1 ?side2 A10.out).mono ?_); (case side1 => exact z_47 HO249.out); (case side2 => exact (Kd.R_reads' HO249.out).2.1); rintro e w24 ⟨rfl, hb⟩; (try clear A10); have n0_ := Aside0.mk (Kd.R_below (z_17 HO242.out) hb); have n1_ := Aside0.mk (Kd.R_below (z_17 HO245.out) hb); have n2_ := Aside0.mk (Kd.R_below (z_17 HO249.out) hb); have n3_ := Aside0.mk (blk_below (g := gb238) (o := .cells #[.string a0_0, .slice A0_1 l0_1.length c0_1, .slice A0_2 l0_2.length c0_2] 27 (0, 0)) (z_7 BK238.out) hb); have n4_ := Aside0.mk (below_step (z_8 HB.out GE238.out) hb); clear HO242; clear HO245; clear HO249; clear BK238; clear HB; have HO242 := n0_; have HO245 := n1_; have HO249 := n2_; have BK238 := n3_; have HB := n4_; clear n0_ n1_ n2_ n3_ n4_; (try clear hb); (try clear hb2); (try clear hk); (try clear hi)))
    go_ret
    exact ⟨z_9, z_8 HB.out GE238.out⟩
   ·replace c8 := Bool.eq_false_iff.mpr c8
    subst c8
    have H1 : (some false) = some r := by rw [if_neg (show ¬ (false = true) by decide)] at H; exact H
    clear H
    have H := H1
    clear H1
    obtain rfl := Option.some.inj H
    go_enter Try.func28, Try.ntmps28
    go_wp2_with (first | ((with_reducible refine gate_dst (N := 1) rfl ?_); (try (refine gate_guard (by rfl) ?_; dsimp only)); refine box_event ?hg (N := 1) ?hd (cs := #[.string a0_0, .slice A0_1 l0_1.length c0_1, .slice A0_2 l0_2.length c0_2]) (t := 27) ?hr ?_; (case hd => rfl); (case hg => rfl); (case hr => first | (go_simp; done) | (go_simp; rfl)); intro gb238 hg w25 hbox hb; have n0_ := Aside0.mk (below_step (z_4 HB.out) hb); have n1_ := Aside0.mk (hbox); have n2_ := Aside0.mk ((z_6 HB.out : w.heap.size ≤ gb238)); have n3_ := Aside0.mk ((z_6 HB.out : w.heap.size ≤ gb238)); clear HB; have HB := n0_; have BK238 := n1_; have GW238 := n2_; have GE238 := n3_; clear n0_ n1_ n2_ n3_; clear hb hbox hg; have hcz26_0 : w25.cell? ⟨gb238, 0, none⟩ = some (.string a0_0) := (blk_cell BK238.out 0).trans rfl; have hcz26_1 : w25.cell? ⟨gb238, 1, none⟩ = some (.slice A0_1 l0_1.length c0_1) := (blk_cell BK238.out 1).trans rfl; have hcz26_2 : w25.cell? ⟨gb238, 2, none⟩ = some (.slice A0_2 l0_2.length c0_2) := (blk_cell BK238.out 2).trans rfl; have hfz26_0 := blk_frozen BK238.out 0; have hfz26_1 := blk_frozen BK238.out 1; have hfz26_2 := blk_frozen BK238.out 2) | ((with_reducible refine gate_callee (f := 50) rfl ?_); refine gl_ 4 Try.func50 #[.agg #[.string a0_0, .slice A0_1 l0_1.length c0_1, .slice A0_2 l0_2.length c0_2], .int .i64 4] ?_; (with_reducible refine (impl_treeOk.calls k a0_0 _ _ l0_1 _ _ l0_2 4 true _ ?side1 ?side2 ?side3 ?side4 A2.out).mono ?_); (case side1 => exact z_62 HR0_1.out HB.out); (case side2 => exact HC0_1.out); (case side3 => exact z_62 HR0_2.out HB.out); (case side4 => exact HC0_2.out); rintro e w27 ⟨rfl, hb⟩; refine ⟨_, rfl, ?_⟩; have n0_ := Aside0.mk (blk_below (g := gb238) (o := .cells #[.string a0_0, .slice A0_1 l0_1.length c0_1, .slice A0_2 l0_2.length c0_2] 27 (0, 0)) (z_7 BK238.out) hb); have n1_ := Aside0.mk (below_step (z_8 HB.out GE238.out) hb); clear BK238; clear HB; have BK238 := n0_; have HB := n1_; clear n0_ n1_; (try clear hb); (try clear hb2); (try clear hk); (try clear hi); have hcz28_0 : w27.cell? ⟨gb238, 0, none⟩ = some (.string a0_0) := (blk_cell BK238.out 0).trans rfl; have hcz28_1 : w27.cell? ⟨gb238, 1, none⟩ = some (.slice A0_1 l0_1.length c0_1) := (blk_cell BK238.out 1).trans rfl; have hcz28_2 : w27.cell? ⟨gb238, 2, none⟩ = some (.slice A0_2 l0_2.length c0_2) := (blk_cell BK238.out 2).trans rfl; have hfz28_0 := blk_frozen BK238.out 0; have hfz28_1 := blk_frozen BK238.out 1; have hfz28_2 := blk_frozen BK238.out 2) | (go_at_call 10; (with_reducible refine (impl_Segs.calls k a0_0 _ _ l0_1 _ _ l0_2 t240 _ ?side1 ?side2 ?side3 ?side4 A4.out).mono ?_); (case side1 => exact z_62 HR0_1.out HB.out); (case side2 => exact HC0_1.out); (case side3 => exact z_62 HR0_2.out HB.out); (case side4 => exact HC0_2.out); rintro e w29 ⟨v241, rfl, ho0, hb⟩; (try clear A4); have n0_ := Aside0.mk (Kd.R_lower ho0 (below_size (z_8 HB.out GE238.out))); have n1_ := Aside0.mk (blk_below (g := gb238) (o := .cells #[.string a0_0, .slice A0_1 l0_1.length c0_1, .slice A0_2 l0_2.length c0_2] 27 (0, 0)) (z_7 BK238.out) hb); have n2_ := Aside0.mk (below_step (z_8 HB.out GE238.out) hb); clear BK238; clear HB; have HO242 := n0_; have BK238 := n1_; have HB := n2_; clear n0_ n1_ n2_; (try clear hb); (try clear hb2); (try clear hk); (try clear hi); (try clear ho0); obtain ⟨Ao30, co30, eo30⟩ := Kd.R_slice HO242.out; subst eo30; have hcz31_0 : w29.cell? ⟨gb238, 0, none⟩ = some (.string a0_0) := (blk_cell BK238.out 0).trans rfl; have hcz31_1 : w29.cell? ⟨gb238, 1, none⟩ = some (.slice A0_1 l0_1.length c0_1) := (blk_cell BK238.out 1).trans rfl; have hcz31_2 : w29.cell? ⟨gb238, 2, none⟩ = some (.slice A0_2 l0_2.length c0_2) := (blk_cell BK238.out 2).trans rfl; have hfz31_0 := blk_frozen BK238.out 0; have hfz31_1 := blk_frozen BK238.out 1; have hfz31_2 := blk_frozen BK238.out 2) | (go_at_call 10; (with_reducible refine (impl_Segs.calls k a0_0 _ _ l0_1 _ _ l0_2 t243 _ ?side1 ?side2 ?side3 ?side4 A6.out).mono ?_); (case side1 => exact z_62 HR0_1.out HB.out); (case side2 => exact HC0_1.out); (case side3 => exact z_62 HR0_2.out HB.out); (case side4 => exact HC0_2.out); rintro e w32 ⟨v244, rfl, ho0, hb⟩; (try clear A6); have n0_ := Aside0.mk (Kd.R_elder' (z_17 HO242.out) (Kd.R_base ho0) hb); have n1_ := Aside0.mk (Kd.R_lower (Kd.R_new' ho0 (Kd.R_lt (z_17 HO242.out))) (below_size (z_8 HB.out GE238.out))); have n2_ := Aside0.mk (blk_below (g := gb238) (o := .cells #[.string a0_0, .slice A0_1 l0_1.length c0_1, .slice A0_2 l0_2.length c0_2] 27 (0, 0)) (z_7 BK238.out) hb); have n3_ := Aside0.mk (below_step (z_8 HB.out GE238.out) hb); clear HO242; clear BK238; clear HB; have HO242 := n0_; have HO245 := n1_; have BK238 := n2_; have HB := n3_; clear n0_ n1_ n2_ n3_; (try clear hb); (try clear hb2); (try clear hk); (try clear hi); (try clear ho0); obtain ⟨Ao33, co33, eo33⟩ := Kd.R_slice HO245.out; subst eo33) | (go_at_call 51; (with_reducible refine (impl_unlike.calls _ _ t243 false _ ?side1 ?side2 A7.out).mono ?_); (case side1 => exact z_47 HO245.out); (case side2 => exact (Kd.R_reads' HO245.out).2.1); rintro e w34 ⟨rfl, hb⟩; have n0_ := Aside0.mk (Kd.R_below (z_17 HO242.out) hb); have n1_ := Aside0.mk (Kd.R_below (z_17 HO245.out) hb); have n2_ := Aside0.mk (blk_below (g := gb238) (o := .cells #[.string a0_0, .slice A0_1 l0_1.length c0_1, .slice A0_2 l0_2.length c0_2] 27 (0, 0)) (z_7 BK238.out) hb); have n3_ := Aside0.mk (below_step (z_8 HB.out GE238.out) hb); clear HO242; clear HO245; clear BK238; clear HB; have HO242 := n0_; have HO245 := n1_; have BK238 := n2_; have HB := n3_; clear n0_ n1_ n2_ n3_; (try clear hb); (try clear hb2); (try clear hk); (try clear hi)))
    go_ret
    exact ⟨z_9, z_8 HB.out GE238.out⟩
  ·rw [if_neg c5] at H
   have c5b0 : decide ((t240.length : Int) ≤ 12) = false := decide_eq_false c5
   have c5b1 : decide (t240.length ≤ 12) = false := decide_eq_false (by omega)
   clear c5
   obtain rfl := Option.some.inj H
   go_enter Try.func28, Try.ntmps28
   go_wp2_with (first | ((with_reducible refine gate_dst (N := 1) rfl ?_); (try (refine gate_guard (by rfl) ?_; dsimp only)); refine box_event ?hg (N := 1) ?hd (cs := #[.string a0_0, .slice A0_1 l0_1.length c0_1, .slice A0_2 l0_2.length c0_2]) (t := 27) ?hr ?_; (case hd => rfl); (case hg => rfl); (case hr => first | (go_simp; done) | (go_simp; rfl)); intro gb238 hg w35 hbox hb; have n0_ := Aside0.mk (below_step (z_4 HB.out) hb); have n1_ := Aside0.mk (hbox); have n2_ := Aside0.mk ((z_6 HB.out : w.heap.size ≤ gb238)); have n3_ := Aside0.mk ((z_6 HB.out : w.heap.size ≤ gb238)); clear HB; have HB := n0_; have BK238 := n1_; have GW238 := n2_; have GE238 := n3_; clear n0_ n1_ n2_ n3_; clear hb hbox hg; have hcz36_0 : w35.cell? ⟨gb238, 0, none⟩ = some (.string a0_0) := (blk_cell BK238.out 0).trans rfl; have hcz36_1 : w35.cell? ⟨gb238, 1, none⟩ = some (.slice A0_1 l0_1.length c0_1) := (blk_cell BK238.out 1).trans rfl; have hcz36_2 : w35.cell? ⟨gb238, 2, none⟩ = some (.slice A0_2 l0_2.length c0_2) := (blk_cell BK238.out 2).trans rfl; have hfz36_0 := blk_frozen BK238.out 0; have hfz36_1 := blk_frozen BK238.out 1; have hfz36_2 := blk_frozen BK238.out 2) | ((with_reducible refine gate_callee (f := 50) rfl ?_); refine gl_ 4 Try.func50 #[.agg #[.string a0_0, .slice A0_1 l0_1.length c0_1, .slice A0_2 l0_2.length c0_2], .int .i64 4] ?_; (with_reducible refine (impl_treeOk.calls k a0_0 _ _ l0_1 _ _ l0_2 4 true _ ?side1 ?side2 ?side3 ?side4 A2.out).mono ?_); (case side1 => exact z_62 HR0_1.out HB.out); (case side2 => exact HC0_1.out); (case side3 => exact z_62 HR0_2.out HB.out); (case side4 => exact HC0_2.out); rintro e w37 ⟨rfl, hb⟩; refine ⟨_, rfl, ?_⟩; have n0_ := Aside0.mk (blk_below (g := gb238) (o := .cells #[.string a0_0, .slice A0_1 l0_1.length c0_1, .slice A0_2 l0_2.length c0_2] 27 (0, 0)) (z_7 BK238.out) hb); have n1_ := Aside0.mk (below_step (z_8 HB.out GE238.out) hb); clear BK238; clear HB; have BK238 := n0_; have HB := n1_; clear n0_ n1_; (try clear hb); (try clear hb2); (try clear hk); (try clear hi); have hcz38_0 : w37.cell? ⟨gb238, 0, none⟩ = some (.string a0_0) := (blk_cell BK238.out 0).trans rfl; have hcz38_1 : w37.cell? ⟨gb238, 1, none⟩ = some (.slice A0_1 l0_1.length c0_1) := (blk_cell BK238.out 1).trans rfl; have hcz38_2 : w37.cell? ⟨gb238, 2, none⟩ = some (.slice A0_2 l0_2.length c0_2) := (blk_cell BK238.out 2).trans rfl; have hfz38_0 := blk_frozen BK238.out 0; have hfz38_1 := blk_frozen BK238.out 1; have hfz38_2 := blk_frozen BK238.out 2) | (go_at_call 10; (with_reducible refine (impl_Segs.calls k a0_0 _ _ l0_1 _ _ l0_2 t240 _ ?side1 ?side2 ?side3 ?side4 A4.out).mono ?_); (case side1 => exact z_62 HR0_1.out HB.out); (case side2 => exact HC0_1.out); (case side3 => exact z_62 HR0_2.out HB.out); (case side4 => exact HC0_2.out); rintro e w39 ⟨v241, rfl, ho0, hb⟩; have n0_ := Aside0.mk (Kd.R_lower ho0 (below_size (z_8 HB.out GE238.out))); have n1_ := Aside0.mk (blk_below (g := gb238) (o := .cells #[.string a0_0, .slice A0_1 l0_1.length c0_1, .slice A0_2 l0_2.length c0_2] 27 (0, 0)) (z_7 BK238.out) hb); have n2_ := Aside0.mk (below_step (z_8 HB.out GE238.out) hb); clear BK238; clear HB; have HO242 := n0_; have BK238 := n1_; have HB := n2_; clear n0_ n1_ n2_; (try clear hb); (try clear hb2); (try clear hk); (try clear hi); (try clear ho0); obtain ⟨Ao40, co40, eo40⟩ := Kd.R_slice HO242.out; subst eo40))
   go_ret
   exact ⟨z_9, z_8 HB.out GE238.out⟩
 ·replace c3 := Bool.eq_false_iff.mpr c3
  subst c3
  have H1 : (some false) = some r := by rw [if_neg (show ¬ (false = true) by decide)] at H; exact H
  clear H
  have H := H1
  clear H1
  obtain rfl := Option.some.inj H
  go_enter Try.func28, Try.ntmps28
  go_wp2_with (first | ((with_reducible refine gate_dst (N := 1) rfl ?_); (try (refine gate_guard (by rfl) ?_; dsimp only)); refine box_event ?hg (N := 1) ?hd (cs := #[.string a0_0, .slice A0_1 l0_1.length c0_1, .slice A0_2 l0_2.length c0_2]) (t := 27) ?hr ?_; (case hd => rfl); (case hg => rfl); (case hr => first | (go_simp; done) | (go_simp; rfl)); intro gb238 hg w41 hbox hb; have n0_ := Aside0.mk (below_step (z_4 HB.out) hb); have n1_ := Aside0.mk (hbox); have n2_ := Aside0.mk ((z_6 HB.out : w.heap.size ≤ gb238)); have n3_ := Aside0.mk ((z_6 HB.out : w.heap.size ≤ gb238)); clear HB; have HB := n0_; have BK238 := n1_; have GW238 := n2_; have GE238 := n3_; clear n0_ n1_ n2_ n3_; clear hb hbox hg; have hcz42_0 : w41.cell? ⟨gb238, 0, none⟩ = some (.string a0_0) := (blk_cell BK238.out 0).trans rfl; have hcz42_1 : w41.cell? ⟨gb238, 1, none⟩ = some (.slice A0_1 l0_1.length c0_1) := (blk_cell BK238.out 1).trans rfl; have hcz42_2 : w41.cell? ⟨gb238, 2, none⟩ = some (.slice A0_2 l0_2.length c0_2) := (blk_cell BK238.out 2).trans rfl; have hfz42_0 := blk_frozen BK238.out 0; have hfz42_1 := blk_frozen BK238.out 1; have hfz42_2 := blk_frozen BK238.out 2) | ((with_reducible refine gate_callee (f := 50) rfl ?_); refine gl_ 4 Try.func50 #[.agg #[.string a0_0, .slice A0_1 l0_1.length c0_1, .slice A0_2 l0_2.length c0_2], .int .i64 4] ?_; (with_reducible refine (impl_treeOk.calls k a0_0 _ _ l0_1 _ _ l0_2 4 false _ ?side1 ?side2 ?side3 ?side4 A2.out).mono ?_); (case side1 => exact z_62 HR0_1.out HB.out); (case side2 => exact HC0_1.out); (case side3 => exact z_62 HR0_2.out HB.out); (case side4 => exact HC0_2.out); rintro e w43 ⟨rfl, hb⟩; refine ⟨_, rfl, ?_⟩; have n0_ := Aside0.mk (blk_below (g := gb238) (o := .cells #[.string a0_0, .slice A0_1 l0_1.length c0_1, .slice A0_2 l0_2.length c0_2] 27 (0, 0)) (z_7 BK238.out) hb); have n1_ := Aside0.mk (below_step (z_8 HB.out GE238.out) hb); clear BK238; clear HB; have BK238 := n0_; have HB := n1_; clear n0_ n1_; (try clear hb); (try clear hb2); (try clear hk); (try clear hi)))
  go_ret
  exact ⟨z_9, z_8 HB.out GE238.out⟩
def impl_WordsIn.l0 : Nat → List ByteArray → List Int → Int → List ByteArray → Int → Int → Option (Int)
 | 0, _, _, _, _, _, _ => none
 | k + 1, x1, x2, x7, x12, x13, x14 => if x14 < x13 then (if 0 ≤ x14 then (if x14 < (x12.length : Int) then ((impl_placeIn.f k x1 (rdOf ByteArray.empty x12 x14)).bind fun t253 => ((impl_within.f t253 0 (wrap64 ((x2.length : Int) - 1))).bind fun t254 => (if t254 = true then (if 0 ≤ t253 then (if t253 < (x2.length : Int) then (impl_WordsIn.l0 k x1 x2 (wrap64 (x7 + (rd x2 t253))) x12 x13 (wrap64 (x14 + 1))) else (none)) else (none)) else (impl_WordsIn.l0 k x1 x2 x7 x12 x13 (wrap64 (x14 + 1)))))) else (none)) else (none)) else (some x7)
def impl_WordsIn.f (k : Nat) (a0_0 : ByteArray) (l0_1 : List ByteArray) (l0_2 : List (S27)) (l1 : List ByteArray) (l2 : List Int) : Option (Int) := impl_WordsIn.l0 k l1 l2 0 l0_1 (l0_1.length : Int) 0
theorem impl_WordsIn.mono_l : ∀ k, (∀ y0 y1 y2 y3 y4 y5, LeO (impl_WordsIn.l0 k y0 y1 y2 y3 y4 y5) (impl_WordsIn.l0 (k + 1) y0 y1 y2 y3 y4 y5))
 | 0 => fun _ _ _ _ _ _ r h => by simp [impl_WordsIn.l0] at h
 | k + 1 => by
  have ih0 := impl_WordsIn.mono_l k
  ·intro y0 y1 y2 y3 y4 y5
   unfold impl_WordsIn.l0
   repeat' first
   | (with_reducible exact ih0 _ _ _ _ _ _)
   | (with_reducible exact impl_placeIn.mono _ _ _)
   | (with_reducible exact LeO.refl _)
   | (with_reducible exact LeO.none _)
   | (with_reducible refine LeO.ite ?_ ?_)
   | (with_reducible refine LeO.bind ?_ (fun _ => ?_))
   | exact ih0 _ _ _ _ _ _
   | exact impl_placeIn.mono _ _ _
   | exact LeO.none _
   | refine LeO.ite ?_ ?_
   | refine LeO.bind ?_ (fun _ => ?_)
theorem impl_WordsIn.mono : ∀ a0 a1 a2 a3 a4 k, LeO (impl_WordsIn.f k a0 a1 a2 a3 a4) (impl_WordsIn.f (k + 1) a0 a1 a2 a3 a4) := by
 intro a0 a1 a2 a3 a4 k
 have ih0 := impl_WordsIn.mono_l k
 unfold impl_WordsIn.f
 repeat' first
  | (with_reducible exact ih0 _ _ _ _ _ _)
  | (with_reducible exact impl_placeIn.mono _ _ _)
  | (with_reducible exact LeO.refl _)
  | (with_reducible exact LeO.none _)
  | (with_reducible refine LeO.ite ?_ ?_)
  | (with_reducible refine LeO.bind ?_ (fun _ => ?_))
  | exact ih0 _ _ _ _ _ _
  | exact impl_placeIn.mono _ _ _
  | exact LeO.none _
  | refine LeO.ite ?_ ?_
  | refine LeO.bind ?_ (fun _ => ?_)
set_option maxHeartbeats 8000000 in
set_option maxRecDepth 100000 in
theorem impl_WordsIn.calls (k : Nat) (a0_0 : ByteArray) (A0_1 : Option Addr) (c0_1 : Nat) (l0_1 : List ByteArray) (A0_2 : Option Addr) (c0_2 : Nat) (l0_2 : List (S27)) (A1 : Option Addr) (c1 : Nat) (l1 : List ByteArray) (A2 : Option Addr) (c2 : Nat) (l2 : List Int) (r : Int) (w : World) (hr0_1 : Kd.C Kd.string w A0_1 l0_1.length l0_1) (hc0_1 : l0_1.length ≤ c0_1) (hr0_2 : Kd.C k27 w A0_2 l0_2.length l0_2) (hc0_2 : l0_2.length ≤ c0_2) (hr1 : Kd.C Kd.string w A1 l1.length l1) (hc1 : l1.length ≤ c1) (hr2 : Kd.C (Kd.int .i64) w A2 l2.length l2) (hc2 : l2.length ≤ c2) (h : impl_WordsIn.f k a0_0 l0_1 l0_2 l1 l2 = some r) :
 Calls Try.prog 22 #[.agg #[.string a0_0, .slice A0_1 l0_1.length c0_1, .slice A0_2 l0_2.length c0_2], .slice A1 l1.length c1, .slice A2 l2.length c2] w fun e w' => e = .returned (.int .i64 r) ∧ Below w.heap.size w w' := by
 have hu27 := Try.underlying27
 have HR0_1 := Aside0.mk hr0_1
 have HC0_1 := Aside0.mk hc0_1
 clear hr0_1 hc0_1
 have HR0_2 := Aside0.mk hr0_2
 have HC0_2 := Aside0.mk hc0_2
 clear hr0_2 hc0_2
 have HR1 := Aside0.mk hr1
 have HC1 := Aside0.mk hc1
 clear hr1 hc1
 have HR2 := Aside0.mk hr2
 have HC2 := Aside0.mk hc2
 clear hr2 hc2
 have HB := Aside0.mk (Below.refl w.heap.size w)
 have H : (impl_WordsIn.l0 k l1 l2 0 l0_1 (l0_1.length : Int) 0) = some r := h
 clear h
 have H' := Aside0.mk H
 clear H
 go_enter Try.func22, Try.ntmps22
 go_wp2_with (first | ((with_reducible refine gate_dst (N := 3) rfl ?_); refine box_event ?hg (N := 3) ?hd (cs := #[.string a0_0, .slice A0_1 l0_1.length c0_1, .slice A0_2 l0_2.length c0_2]) (t := 27) ?hr ?_; (case hd => rfl); (case hg => rfl); (case hr => first | (go_simp; done) | (go_simp; rfl)); intro gb251 hg w4 hbox hb; have n0_ := Aside0.mk (below_step (z_4 HB.out) hb); have n1_ := Aside0.mk (hbox); have n2_ := Aside0.mk ((z_6 HB.out : w.heap.size ≤ gb251)); have n3_ := Aside0.mk ((z_6 HB.out : w.heap.size ≤ gb251)); clear HB; have HB := n0_; have BK251 := n1_; have GW251 := n2_; have GE251 := n3_; clear n0_ n1_ n2_ n3_; clear hb hbox hg; have hcz5_0 : w4.cell? ⟨gb251, 0, none⟩ = some (.string a0_0) := (blk_cell BK251.out 0).trans rfl; have hcz5_1 : w4.cell? ⟨gb251, 1, none⟩ = some (.slice A0_1 l0_1.length c0_1) := (blk_cell BK251.out 1).trans rfl; have hcz5_2 : w4.cell? ⟨gb251, 2, none⟩ = some (.slice A0_2 l0_2.length c0_2) := (blk_cell BK251.out 2).trans rfl; have hfz5_0 := blk_frozen BK251.out 0; have hfz5_1 := blk_frozen BK251.out 1; have hfz5_2 := blk_frozen BK251.out 2))
 go_loopg [7, 14] k (fun kq v7 v14 w' => ∃ (x7_1 : Int) (x14_1 : Int), v7 = .int .i64 x7_1 ∧ v14 = .int .i64 x14_1 ∧ Aside0 (impl_WordsIn.l0 kq l1 l2 x7_1 l0_1 (l0_1.length : Int) x14_1 = some r) ∧ Aside0 (kq ≤ k) ∧ Aside0 (w'.heap[gb251]? = some (.cells #[.string a0_0, (.slice A0_1 l0_1.length c0_1), (.slice A0_2 l0_2.length c0_2)] 27 (0, 0))) ∧ Aside0 (Below w.heap.size w w'))
 case atStart => exact ⟨(0), (0), z_3, z_3, H', ⟨Nat.le_refl _⟩, ⟨z_7 BK251.out⟩, ⟨z_8 HB.out GE251.out⟩⟩
 case round =>
  clear H'
  try clear c1
  try clear c2
  try clear p2
  try clear hcz5_0
  try clear hcz5_1
  try clear hcz5_2
  try clear hfz5_0
  try clear hfz5_1
  try clear hfz5_2
  obtain ⟨x7_1, x14_1, rfl, rfl, HA, HK1, BK251, HB⟩ := hrel
  cases gk with
  | zero => exact absurd HA.out (by simp [impl_WordsIn.l0])
  | succ k1 =>
   have H := HA.out
   clear HA
   simp only [impl_WordsIn.l0] at H
   by_cases c6 : x14_1 < (l0_1.length : Int)
   ·rw [if_pos c6] at H
    have c6b0 : decide (x14_1 < (l0_1.length : Int)) = true := decide_eq_true c6
    clear c6
    by_cases c7 : 0 ≤ x14_1
    ·rw [if_pos c7] at H
     have c7b0 : decide (0 ≤ x14_1) = true := decide_eq_true c7
     clear c7
     by_cases c8 : x14_1 < (l0_1.length : Int)
     ·rw [if_pos c8] at H
      have c8b0 : decide (x14_1 < (l0_1.length : Int)) = true := decide_eq_true c8
      clear c8
      replace H := Option.bind_eq_some_iff.mp H
      obtain ⟨t253, A90, H⟩ := H
      replace H : ((impl_within.f t253 0 (wrap64 ((l2.length : Int) - 1))).bind fun t254 => (if t254 = true then (if 0 ≤ t253 then (if t253 < (l2.length : Int) then (impl_WordsIn.l0 k1 l1 l2 (wrap64 (x7_1 + (rd l2 t253))) l0_1 (l0_1.length : Int) (wrap64 (x14_1 + 1))) else (none)) else (none)) else (impl_WordsIn.l0 k1 l1 l2 x7_1 l0_1 (l0_1.length : Int) (wrap64 (x14_1 + 1))))) = some r := H
      have A9 := Aside0.mk A90
      clear A90
      replace H := Option.bind_eq_some_iff.mp H
      obtain ⟨t254, A100, H⟩ := H
      replace H : (if t254 = true then (if 0 ≤ t253 then (if t253 < (l2.length : Int) then (impl_WordsIn.l0 k1 l1 l2 (wrap64 (x7_1 + (rd l2 t253))) l0_1 (l0_1.length : Int) (wrap64 (x14_1 + 1))) else (none)) else (none)) else (impl_WordsIn.l0 k1 l1 l2 x7_1 l0_1 (l0_1.length : Int) (wrap64 (x14_1 + 1)))) = some r := H
      have A10 := Aside0.mk A100
      clear A100
      by_cases c11 : t254 = true
      ·subst c11
       have H1 : (if 0 ≤ t253 then (if t253 < (l2.length : Int) then (impl_WordsIn.l0 k1 l1 l2 (wrap64 (x7_1 + (rd l2 t253))) l0_1 (l0_1.length : Int) (wrap64 (x14_1 + 1))) else (none)) else (none)) = some r := by rw [if_pos rfl] at H; exact H
       clear H
       have H := H1
       clear H1
       by_cases c12 : 0 ≤ t253
       ·rw [if_pos c12] at H
        have c12b0 : decide (0 ≤ t253) = true := decide_eq_true c12
        clear c12
        by_cases c13 : t253 < (l2.length : Int)
        ·rw [if_pos c13] at H
         have c13b0 : decide (t253 < (l2.length : Int)) = true := decide_eq_true c13
         clear c13
         have H' := Aside0.mk H
         clear H
         have p252 : 0 ≤ (x14_1 : Int) := of_decide_eq_true z_5
         have q252 : x14_1 < (l0_1.length : Int) := of_decide_eq_true z_5
         obtain ⟨ad252, e252, hx252_0⟩ := Kd.at_string HR0_1.out x14_1 p252 q252
         cases e252
         replace hx252_0 := (HB.out.cell (World.block_lt_of_cell? w _ hx252_0)).trans hx252_0
         replace p252 := eq_true p252
         replace q252 := eq_true q252
         go_wp2_with (first | ((with_reducible refine gate_callee (f := 32) rfl ?_); refine gl_ 20 Try.func32 #[.slice A1 l1.length c1, .string (rdOf ByteArray.empty l0_1 x14_1)] ?_; (with_reducible refine (impl_placeIn.calls k1 _ _ l1 (rdOf ByteArray.empty l0_1 x14_1) t253 _ ?side1 ?side2 A9.out).mono ?_); (case side1 => exact z_62 HR1.out HB.out); (case side2 => exact HC1.out); rintro e w' ⟨rfl, ⟨nd, rfl⟩⟩; refine ⟨_, rfl, ?_⟩) | ((with_reducible refine gate_callee (f := 29) rfl ?_); refine gl_ 25 Try.func29 #[.int .i64 t253, .int .i64 0, .int .i64 (wrap64 ((l2.length : Int) - 1))] ?_; (with_reducible refine (impl_within.calls t253 0 (wrap64 ((l2.length : Int) - 1)) true _ A10.out).mono ?_); rintro e w' ⟨rfl, ⟨nd, rfl⟩⟩; refine ⟨_, rfl, ?_⟩; have p255 : 0 ≤ (t253 : Int) := of_decide_eq_true z_5; have q255 : t253 < (l2.length : Int) := of_decide_eq_true z_5; obtain ⟨ad255, e255, hx255_0⟩ := Kd.at_int HR2.out t253 p255 q255; cases e255; replace hx255_0 := (HB.out.cell (World.block_lt_of_cell? w _ hx255_0)).trans hx255_0; replace p255 := eq_true p255; replace q255 := eq_true q255))
         go_roundg k1
         case measure => have := HK1.out; omega
         case rel => exact ⟨(wrap64 (x7_1 + (rd l2 t253))), (wrap64 (x14_1 + 1)), z_3, z_3, H', ⟨by have := HK1.out; omega⟩, ⟨z_7 BK251.out⟩, ⟨z_8 HB.out GE251.out⟩⟩
        ·rw [if_neg c13] at H
         exact absurd H (by simp)
       ·rw [if_neg c12] at H
        exact absurd H (by simp)
      ·replace c11 := Bool.eq_false_iff.mpr c11
       subst c11
       have H1 : (impl_WordsIn.l0 k1 l1 l2 x7_1 l0_1 (l0_1.length : Int) (wrap64 (x14_1 + 1))) = some r := by rw [if_neg (show ¬ (false = true) by decide)] at H; exact H
       clear H
       have H := H1
       clear H1
       have H' := Aside0.mk H
       clear H
       have p252 : 0 ≤ (x14_1 : Int) := of_decide_eq_true z_5
       have q252 : x14_1 < (l0_1.length : Int) := of_decide_eq_true z_5
       obtain ⟨ad252, e252, hx252_0⟩ := Kd.at_string HR0_1.out x14_1 p252 q252
       cases e252
       replace hx252_0 := (HB.out.cell (World.block_lt_of_cell? w _ hx252_0)).trans hx252_0
       replace p252 := eq_true p252
       replace q252 := eq_true q252
       go_wp2_with (first | ((with_reducible refine gate_callee (f := 32) rfl ?_); refine gl_ 20 Try.func32 #[.slice A1 l1.length c1, .string (rdOf ByteArray.empty l0_1 x14_1)] ?_; (with_reducible refine (impl_placeIn.calls k1 _ _ l1 (rdOf ByteArray.empty l0_1 x14_1) t253 _ ?side1 ?side2 A9.out).mono ?_); (case side1 => exact z_62 HR1.out HB.out); (case side2 => exact HC1.out); rintro e w' ⟨rfl, ⟨nd, rfl⟩⟩; refine ⟨_, rfl, ?_⟩) | ((with_reducible refine gate_callee (f := 29) rfl ?_); refine gl_ 25 Try.func29 #[.int .i64 t253, .int .i64 0, .int .i64 (wrap64 ((l2.length : Int) - 1))] ?_; (with_reducible refine (impl_within.calls t253 0 (wrap64 ((l2.length : Int) - 1)) false _ A10.out).mono ?_); rintro e w' ⟨rfl, ⟨nd, rfl⟩⟩; refine ⟨_, rfl, ?_⟩))
       go_roundg k1
       case measure => have := HK1.out; omega
       case rel => exact ⟨(x7_1), (wrap64 (x14_1 + 1)), z_3, z_3, H', ⟨by have := HK1.out; omega⟩, ⟨z_7 BK251.out⟩, ⟨z_8 HB.out GE251.out⟩⟩
     ·rw [if_neg c8] at H
      exact absurd H (by simp)
    ·rw [if_neg c7] at H
     exact absurd H (by simp)
   ·rw [if_neg c6] at H
    have c6b0 : decide (x14_1 < (l0_1.length : Int)) = false := decide_eq_false c6
    clear c6
    obtain rfl := Option.some.inj H
    go_wp2
    go_ret
    exact ⟨z_9, z_8 HB.out GE251.out⟩
mutual
def impl_spans.l0 : Nat → List ByteArray → List Int → Int → List (S38) → List (S27) → Int → Int → Option ((List (S38)))
 | 0, _, _, _, _, _, _, _ => none
 | k + 1, x1, x2, x9, x10, x27, x28, x29 => if x29 < x28 then (if 0 ≤ x29 then (if x29 < (x27.length : Int) then ((impl_spans.f k ((rd_T27 x27 x29).f0) ((rd_T27 x27 x29).f1) ((rd_T27 x27 x29).f2) x1 x2 x9).bind fun t263 => (if x10.length + t263.length < 4398046511104 then (impl_spans.l0 k x1 x2 x9 (x10 ++ t263) x27 x28 (wrap64 (x29 + 1))) else (none))) else (none)) else (none)) else (some x10)
def impl_spans.f : Nat → ByteArray → List ByteArray → List (S27) → List ByteArray → List Int → Int → Option ((List (S38)))
 | 0, _, _, _, _, _, _ => none
 | k + 1, a0_0, l0_1, l0_2, l1, l2, a3 => (impl_WordsIn.f k a0_0 l0_1 l0_2 l1 l2).bind fun t257 => (impl_spans.l0 k l1 l2 (wrap64 (a3 + (wrap64 (2 * t257)))) (([(⟨a0_0, a3, wrap64 (a3 + (wrap64 (2 * t257)))⟩ : S38)] : List (S38))) l0_2 (l0_2.length : Int) 0)
end
theorem impl_spans.mono_l : ∀ k, (∀ y0 y1 y2 y3 y4 y5, LeO (impl_spans.f k y0 y1 y2 y3 y4 y5) (impl_spans.f (k + 1) y0 y1 y2 y3 y4 y5)) ∧ (∀ y0 y1 y2 y3 y4 y5 y6, LeO (impl_spans.l0 k y0 y1 y2 y3 y4 y5 y6) (impl_spans.l0 (k + 1) y0 y1 y2 y3 y4 y5 y6))
 | 0 => ⟨fun _ _ _ _ _ _ r h => by simp [impl_spans.f] at h, fun _ _ _ _ _ _ _ r h => by simp [impl_spans.l0] at h⟩
 | k + 1 => by
  obtain ⟨ih0, ih1⟩ := impl_spans.mono_l k
  refine ⟨?_, ?_⟩
  ·intro y0 y1 y2 y3 y4 y5
   unfold impl_spans.f
   repeat' first
   | (with_reducible exact ih0 _ _ _ _ _ _)
   | (with_reducible exact ih1 _ _ _ _ _ _ _)
   | (with_reducible exact impl_WordsIn.mono _ _ _ _ _ _)
   | (with_reducible exact LeO.refl _)
   | (with_reducible exact LeO.none _)
   | (with_reducible refine LeO.ite ?_ ?_)
   | (with_reducible refine LeO.bind ?_ (fun _ => ?_))
   | exact ih0 _ _ _ _ _ _
   | exact ih1 _ _ _ _ _ _ _
   | exact impl_WordsIn.mono _ _ _ _ _ _
   | exact LeO.none _
   | refine LeO.ite ?_ ?_
   | refine LeO.bind ?_ (fun _ => ?_)
  ·intro y0 y1 y2 y3 y4 y5 y6
   unfold impl_spans.l0
   repeat' first
   | (with_reducible exact ih0 _ _ _ _ _ _)
   | (with_reducible exact ih1 _ _ _ _ _ _ _)
   | (with_reducible exact impl_WordsIn.mono _ _ _ _ _ _)
   | (with_reducible exact LeO.refl _)
   | (with_reducible exact LeO.none _)
   | (with_reducible refine LeO.ite ?_ ?_)
   | (with_reducible refine LeO.bind ?_ (fun _ => ?_))
   | exact ih0 _ _ _ _ _ _
   | exact ih1 _ _ _ _ _ _ _
   | exact impl_WordsIn.mono _ _ _ _ _ _
   | exact LeO.none _
   | refine LeO.ite ?_ ?_
   | refine LeO.bind ?_ (fun _ => ?_)
theorem impl_spans.mono : ∀ a0 a1 a2 a3 a4 a5 k, LeO (impl_spans.f k a0 a1 a2 a3 a4 a5) (impl_spans.f (k + 1) a0 a1 a2 a3 a4 a5) := by
 intro a0 a1 a2 a3 a4 a5 k
 obtain ⟨ih0, ih1⟩ := impl_spans.mono_l k
 exact ih0 a0 a1 a2 a3 a4 a5
set_option maxHeartbeats 8000000 in
set_option maxRecDepth 100000 in
theorem impl_spans.calls (k : Nat) : ∀ (a0_0 : ByteArray) (A0_1 : Option Addr) (c0_1 : Nat) (l0_1 : List ByteArray) (A0_2 : Option Addr) (c0_2 : Nat) (l0_2 : List (S27)) (A1 : Option Addr) (c1 : Nat) (l1 : List ByteArray) (A2 : Option Addr) (c2 : Nat) (l2 : List Int) (a3 : Int) (r : List (S38)) (w : World) (hr0_1 : Kd.C Kd.string w A0_1 l0_1.length l0_1) (hc0_1 : l0_1.length ≤ c0_1) (hr0_2 : Kd.C k27 w A0_2 l0_2.length l0_2) (hc0_2 : l0_2.length ≤ c0_2) (hr1 : Kd.C Kd.string w A1 l1.length l1) (hc1 : l1.length ≤ c1) (hr2 : Kd.C (Kd.int .i64) w A2 l2.length l2) (hc2 : l2.length ≤ c2) (h : impl_spans.f k a0_0 l0_1 l0_2 l1 l2 a3 = some r),
 Calls Try.prog 30 #[.agg #[.string a0_0, .slice A0_1 l0_1.length c0_1, .slice A0_2 l0_2.length c0_2], .slice A1 l1.length c1, .slice A2 l2.length c2, .int .i64 a3] w fun e w' => ∃ v0_ : Value, e = .returned (v0_) ∧ Kd.R k38 38 w' w.heap.size (fun _ => True) v0_ r ∧ Below w.heap.size w w' := by
 induction k using Nat.strongRecOn with
 | _ k ih =>
 intro a0_0 A0_1 c0_1 l0_1 A0_2 c0_2 l0_2 A1 c1 l1 A2 c2 l2 a3 r w hr0_1 hc0_1 hr0_2 hc0_2 hr1 hc1 hr2 hc2 h
 cases k with
 | zero => exact absurd h (by simp [impl_spans.f])
 | succ k =>
 simp only [impl_spans.f] at h
 have hu27 := Try.underlying27
 have hu38 := Try.underlying38
 have HR0_1 := Aside0.mk hr0_1
 have HC0_1 := Aside0.mk hc0_1
 clear hr0_1 hc0_1
 have HR0_2 := Aside0.mk hr0_2
 have HC0_2 := Aside0.mk hc0_2
 clear hr0_2 hc0_2
 have HR1 := Aside0.mk hr1
 have HC1 := Aside0.mk hc1
 clear hr1 hc1
 have HR2 := Aside0.mk hr2
 have HC2 := Aside0.mk hc2
 clear hr2 hc2
 have HB := Aside0.mk (Below.refl w.heap.size w)
 have H : ((impl_WordsIn.f k a0_0 l0_1 l0_2 l1 l2).bind fun t257 => (impl_spans.l0 k l1 l2 (wrap64 (a3 + (wrap64 (2 * t257)))) (([(⟨a0_0, a3, wrap64 (a3 + (wrap64 (2 * t257)))⟩ : S38)] : List (S38))) l0_2 (l0_2.length : Int) 0)) = some r := h
 clear h
 replace H := Option.bind_eq_some_iff.mp H
 obtain ⟨t257, A50, H⟩ := H
 replace H : (impl_spans.l0 k l1 l2 (wrap64 (a3 + (wrap64 (2 * t257)))) (([(⟨a0_0, a3, wrap64 (a3 + (wrap64 (2 * t257)))⟩ : S38)] : List (S38))) l0_2 (l0_2.length : Int) 0) = some r := H
 have A5 := Aside0.mk A50
 clear A50
 obtain ⟨y258, hy258⟩ : ∃ y_ : List (S38), y_ = (([(⟨a0_0, a3, wrap64 (a3 + (wrap64 (2 * t257)))⟩ : S38)] : List (S38))) := ⟨_, rfl⟩
 replace H : (impl_spans.l0 k l1 l2 (wrap64 (a3 + (wrap64 (2 * t257)))) y258 l0_2 (l0_2.length : Int) 0) = some r := by first | (rw [hy258]; with_reducible exact H) | (have H2_ := (Option.bind_some _ _).symm.trans H; rw [hy258]; with_reducible exact H2_) | (have H2_ := (Option.bind_some _ _).symm.trans H; with_reducible exact H2_) | with_reducible exact H | (rw [hy258]; exact H) | exact H
 have Ny258 := Aside0.mk hy258
 clear hy258
 have H' := Aside0.mk H
 clear H
 go_enter Try.func30, Try.ntmps30
 go_wp2_with (first | ((with_reducible refine gate_dst (N := 4) rfl ?_); refine box_event ?hg (N := 4) ?hd (cs := #[.string a0_0, .slice A0_1 l0_1.length c0_1, .slice A0_2 l0_2.length c0_2]) (t := 27) ?hr ?_; (case hd => rfl); (case hg => rfl); (case hr => first | (go_simp; done) | (go_simp; rfl)); intro gb256 hg w6 hbox hb; have n0_ := Aside0.mk (below_step (z_4 HB.out) hb); have n1_ := Aside0.mk (hbox); have n2_ := Aside0.mk ((z_6 HB.out : w.heap.size ≤ gb256)); have n3_ := Aside0.mk ((z_6 HB.out : w.heap.size ≤ gb256)); clear HB; have HB := n0_; have BK256 := n1_; have GW256 := n2_; have GE256 := n3_; clear n0_ n1_ n2_ n3_; clear hb hbox hg; have hcz7_0 : w6.cell? ⟨gb256, 0, none⟩ = some (.string a0_0) := (blk_cell BK256.out 0).trans rfl; have hcz7_1 : w6.cell? ⟨gb256, 1, none⟩ = some (.slice A0_1 l0_1.length c0_1) := (blk_cell BK256.out 1).trans rfl; have hcz7_2 : w6.cell? ⟨gb256, 2, none⟩ = some (.slice A0_2 l0_2.length c0_2) := (blk_cell BK256.out 2).trans rfl; have hfz7_0 := blk_frozen BK256.out 0; have hfz7_1 := blk_frozen BK256.out 1; have hfz7_2 := blk_frozen BK256.out 2) | ((with_reducible refine gate_callee (f := 22) rfl ?_); refine gl_ 17 Try.func22 #[.agg #[.string a0_0, .slice A0_1 l0_1.length c0_1, .slice A0_2 l0_2.length c0_2], .slice A1 l1.length c1, .slice A2 l2.length c2] ?_; (with_reducible refine (impl_WordsIn.calls k a0_0 _ _ l0_1 _ _ l0_2 _ _ l1 _ _ l2 t257 _ ?side1 ?side2 ?side3 ?side4 ?side5 ?side6 ?side7 ?side8 A5.out).mono ?_); (case side1 => exact z_62 HR0_1.out HB.out); (case side2 => exact HC0_1.out); (case side3 => exact z_62 HR0_2.out HB.out); (case side4 => exact HC0_2.out); (case side5 => exact z_62 HR1.out HB.out); (case side6 => exact HC1.out); (case side7 => exact z_62 HR2.out HB.out); (case side8 => exact HC2.out); rintro e w8 ⟨rfl, hb⟩; refine ⟨_, rfl, ?_⟩; have n0_ := Aside0.mk (blk_below (g := gb256) (o := .cells #[.string a0_0, .slice A0_1 l0_1.length c0_1, .slice A0_2 l0_2.length c0_2] 27 (0, 0)) (z_7 BK256.out) hb); have n1_ := Aside0.mk (below_step (z_8 HB.out GE256.out) hb); clear BK256; clear HB; have BK256 := n0_; have HB := n1_; clear n0_ n1_; (try clear hb); (try clear hb2); (try clear hk); (try clear hi); have hcz9_0 : w8.cell? ⟨gb256, 0, none⟩ = some (.string a0_0) := (blk_cell BK256.out 0).trans rfl; have hcz9_1 : w8.cell? ⟨gb256, 1, none⟩ = some (.slice A0_1 l0_1.length c0_1) := (blk_cell BK256.out 1).trans rfl; have hcz9_2 : w8.cell? ⟨gb256, 2, none⟩ = some (.slice A0_2 l0_2.length c0_2) := (blk_cell BK256.out 2).trans rfl; have hfz9_0 := blk_frozen BK256.out 0; have hfz9_1 := blk_frozen BK256.out 1; have hfz9_2 := blk_frozen BK256.out 2) | ((with_reducible refine gate_dst (N := 25) rfl ?_); refine Kd.R_lit k38 _ 38 ?hg (N := 25) ?hd (xs := ([(⟨a0_0, a3, wrap64 (a3 + (wrap64 (2 * t257)))⟩ : S38)] : List (S38))) (inner := [.string a0_0, .int .i64 a3, .int .i64 (wrap64 (a3 + (wrap64 (2 * t257))))]) (ok := fun _ => True) (okp := fun _ => True) ?hr ?hp (fun _ hk => hk) trivial (Below.refl _ _) (Nat.le_refl _) (by simp) ?_; (case hd => rfl); (case hg => rfl); (case hr => first | (go_simp; done) | (go_simp; rfl)); (case hp => exact (Reps.c3 (show Kd.M k38 _ _ _ (⟨a0_0, a3, wrap64 (a3 + (wrap64 (2 * t257)))⟩ : S38) [.string a0_0, .int .i64 a3, .int .i64 (wrap64 (a3 + (wrap64 (2 * t257))))] from (k38_mkM _ _ _ (⟨a0_0, a3, wrap64 (a3 + (wrap64 (2 * t257)))⟩ : S38) )) (Reps.none _ _))); intro v259 w10 ho11 hb hg_ hnew_; clear hg_ hnew_; (first | rw [← Ny258.out] at ho11 | (simp only [Int.reduceToNat] at ho11; rw [← Ny258.out] at ho11)); have n0_ := Aside0.mk (Kd.R_lower ho11 (below_size (z_8 HB.out GE256.out))); have n1_ := Aside0.mk (blk_below (g := gb256) (o := .cells #[.string a0_0, .slice A0_1 l0_1.length c0_1, .slice A0_2 l0_2.length c0_2] 27 (0, 0)) (z_7 BK256.out) hb); have n2_ := Aside0.mk (below_step (z_8 HB.out GE256.out) hb); clear BK256; clear HB; have HO260 := n0_; have BK256 := n1_; have HB := n2_; clear n0_ n1_ n2_; clear hb ho11; have hcz12_0 : w10.cell? ⟨gb256, 0, none⟩ = some (.string a0_0) := (blk_cell BK256.out 0).trans rfl; have hcz12_1 : w10.cell? ⟨gb256, 1, none⟩ = some (.slice A0_1 l0_1.length c0_1) := (blk_cell BK256.out 1).trans rfl; have hcz12_2 : w10.cell? ⟨gb256, 2, none⟩ = some (.slice A0_2 l0_2.length c0_2) := (blk_cell BK256.out 2).trans rfl; have hfz12_0 := blk_frozen BK256.out 0; have hfz12_1 := blk_frozen BK256.out 1; have hfz12_2 := blk_frozen BK256.out 2))
 go_loopg [10, 29] k (fun kq v10 v29 w' => ∃ (x10_1 : List (S38)) (x29_1 : Int), v29 = .int .i64 x29_1 ∧ Aside0 (impl_spans.l0 kq l1 l2 (wrap64 (a3 + (wrap64 (2 * t257)))) x10_1 l0_2 (l0_2.length : Int) x29_1 = some r) ∧ Aside0 (kq ≤ k) ∧ Aside0 (Kd.R k38 38 w' w.heap.size (fun _ => True) v10 x10_1) ∧ Aside0 (w'.heap[gb256]? = some (.cells #[.string a0_0, (.slice A0_1 l0_1.length c0_1), (.slice A0_2 l0_2.length c0_2)] 27 (0, 0))) ∧ Aside0 (Below w.heap.size w w'))
 case atStart => exact ⟨(y258), (0), z_3, H', ⟨Nat.le_refl _⟩, ⟨z_17 HO260.out⟩, ⟨z_7 BK256.out⟩, ⟨z_8 HB.out GE256.out⟩⟩
 case round =>
  clear H'
  try clear c1
  try clear c2
  try clear p2
  try clear c3
  try clear p6
  try clear hcz12_0
  try clear hcz12_1
  try clear hcz12_2
  try clear hcz7_0
  try clear hcz7_1
  try clear hcz7_2
  try clear hcz9_0
  try clear hcz9_1
  try clear hcz9_2
  try clear hfz12_0
  try clear hfz12_1
  try clear hfz12_2
  try clear hfz7_0
  try clear hfz7_1
  try clear hfz7_2
  try clear hfz9_0
  try clear hfz9_1
  try clear hfz9_2
  obtain ⟨x10_1, x29_1, rfl, HA, HK1, HO_10, BK256, HB⟩ := hrel
  cases gk with
  | zero => exact absurd HA.out (by simp [impl_spans.l0])
  | succ k1 =>
   have H := HA.out
   clear HA
   simp only [impl_spans.l0] at H
   by_cases c13 : x29_1 < (l0_2.length : Int)
   ·rw [if_pos c13] at H
    have c13b0 : decide (x29_1 < (l0_2.length : Int)) = true := decide_eq_true c13
    clear c13
    by_cases c14 : 0 ≤ x29_1
    ·rw [if_pos c14] at H
     have c14b0 : decide (0 ≤ x29_1) = true := decide_eq_true c14
     clear c14
     by_cases c15 : x29_1 < (l0_2.length : Int)
     ·rw [if_pos c15] at H
      have c15b0 : decide (x29_1 < (l0_2.length : Int)) = true := decide_eq_true c15
      clear c15
      replace H := Option.bind_eq_some_iff.mp H
      obtain ⟨t263, A160, H⟩ := H
      replace H : (if x10_1.length + t263.length < 4398046511104 then (impl_spans.l0 k1 l1 l2 (wrap64 (a3 + (wrap64 (2 * t257)))) (x10_1 ++ t263) l0_2 (l0_2.length : Int) (wrap64 (x29_1 + 1))) else (none)) = some r := H
      have A16 := Aside0.mk A160
      clear A160
      by_cases c17 : x10_1.length + t263.length < 4398046511104
      ·rw [if_pos c17] at H
       have LMc17 := Aside0.mk c17
       clear c17
       obtain ⟨y266, hy266⟩ : ∃ y_ : List (S38), y_ = (x10_1 ++ t263) := ⟨_, rfl⟩
       replace H : (impl_spans.l0 k1 l1 l2 (wrap64 (a3 + (wrap64 (2 * t257)))) y266 l0_2 (l0_2.length : Int) (wrap64 (x29_1 + 1))) = some r := by first | (rw [hy266]; with_reducible exact H) | (have H2_ := (Option.bind_some _ _).symm.trans H; rw [hy266]; with_reducible exact H2_) | (have H2_ := (Option.bind_some _ _).symm.trans H; with_reducible exact H2_) | with_reducible exact H | (rw [hy266]; exact H) | exact H
       have Ny266 := Aside0.mk hy266
       clear hy266
       have H' := Aside0.mk H
       clear H
       have p261 : 0 ≤ (x29_1 : Int) := of_decide_eq_true z_5
       have q261 : x29_1 < (l0_2.length : Int) := of_decide_eq_true z_5
       obtain ⟨ad261, A261_1, c261_1, A261_2, c261_2, e261, hx261_0, hx261_1, hx261_2, hl261_1, hi261_1, hl261_2, hi261_2⟩ := at_T27 HR0_2.out x29_1 p261 q261
       cases e261
       replace hx261_0 := (HB.out.cell (World.block_lt_of_cell? w _ hx261_0)).trans hx261_0
       replace hx261_1 := (HB.out.cell (World.block_lt_of_cell? w _ hx261_1)).trans hx261_1
       replace hx261_2 := (HB.out.cell (World.block_lt_of_cell? w _ hx261_2)).trans hx261_2
       have HR261_1 := Aside0.mk hi261_1
       have HC261_1 := Aside0.mk hl261_1
       clear hi261_1 hl261_1
       have HR261_2 := Aside0.mk hi261_2
       have HC261_2 := Aside0.mk hl261_2
       clear hi261_2 hl261_2
       replace p261 := eq_true p261
       replace q261 := eq_true q261
       go_wp2_with (first | ((with_reducible refine gate_dst (N := 12) rfl ?_); refine box_event ?hg (N := 12) ?hd (cs := #[.string (⟨#[]⟩ : ByteArray), .slice none 0 0, .slice none 0 0]) (t := 27) ?hr ?_; (case hd => rfl); (case hg => rfl); (case hr => first | (go_simp; done) | (go_simp; rfl)); intro gb262 hg w18 hbox hb; have n0_ := Aside0.mk (Kd.R_below (z_17 HO_10.out) hb); have n1_ := Aside0.mk (blk_below (g := gb256) (o := .cells #[.string a0_0, .slice A0_1 l0_1.length c0_1, .slice (some ad261) l0_2.length c0_2] 27 (0, 0)) (z_7 BK256.out) hb); have n2_ := Aside0.mk (below_step (z_8 HB.out GE256.out) hb); have n3_ := Aside0.mk (hbox); have n4_ := Aside0.mk ((z_54 HB.out GE256.out : w.heap.size ≤ gb262)); have n5_ := Aside0.mk ((z_54 HB.out GE256.out : w.heap.size ≤ gb262)); have n6_ := Aside0.mk ((by rw [hg]; exact Nat.ne_of_lt (blk_lt (g := gb256) (o := .cells #[.string a0_0, .slice A0_1 l0_1.length c0_1, .slice (some ad261) l0_2.length c0_2] 27 (0, 0)) (z_7 BK256.out)) : gb256 ≠ gb262)); have n7_ := Aside0.mk ((by rw [hg]; exact Nat.ne_of_gt (blk_lt (g := gb256) (o := .cells #[.string a0_0, .slice A0_1 l0_1.length c0_1, .slice (some ad261) l0_2.length c0_2] 27 (0, 0)) (z_7 BK256.out)) : gb262 ≠ gb256)); clear HO_10; clear BK256; clear HB; have HO_10 := n0_; have BK256 := n1_; have HB := n2_; have BK262 := n3_; have GW262 := n4_; have GE262 := n5_; have NB256_262 := n6_; have NB262_256 := n7_; clear n0_ n1_ n2_ n3_ n4_ n5_ n6_ n7_; clear hb hbox hg; have hnb19 := NB262_256.out; have hnc19 := NB256_262.out; have hcz20_0 : w18.cell? ⟨gb262, 0, none⟩ = some (.string (⟨#[]⟩ : ByteArray)) := (blk_cell BK262.out 0).trans rfl; have hcz20_1 : w18.cell? ⟨gb262, 1, none⟩ = some (.slice none 0 0) := (blk_cell BK262.out 1).trans rfl; have hcz20_2 : w18.cell? ⟨gb262, 2, none⟩ = some (.slice none 0 0) := (blk_cell BK262.out 2).trans rfl; have hfz20_0 := blk_frozen BK262.out 0; have hfz20_1 := blk_frozen BK262.out 1; have hfz20_2 := blk_frozen BK262.out 2) | ((with_reducible refine gate_callee (f := 30) rfl ?_); refine gl_ 38 Try.func30 #[.agg #[.string ((rd_T27 l0_2 x29_1).f0), .slice A261_1 ((rd_T27 l0_2 x29_1).f1).length c261_1, .slice A261_2 ((rd_T27 l0_2 x29_1).f2).length c261_2], .slice A1 l1.length c1, .slice A2 l2.length c2, .int .i64 (wrap64 (a3 + (wrap64 (2 * t257))))] ?_; (with_reducible refine (ih k1 (by have := HK1.out; omega) ((rd_T27 l0_2 x29_1).f0) _ _ ((rd_T27 l0_2 x29_1).f1) _ _ ((rd_T27 l0_2 x29_1).f2) _ _ l1 _ _ l2 (wrap64 (a3 + (wrap64 (2 * t257)))) t263 _ ?side1 ?side2 ?side3 ?side4 ?side5 ?side6 ?side7 ?side8 A16.out).mono ?_); (case side1 => exact Kd.C_below HR261_1.out (z_55 HB.out GE256.out GE262.out)); (case side2 => exact HC261_1.out); (case side3 => exact Kd.C_below HR261_2.out (z_55 HB.out GE256.out GE262.out)); (case side4 => exact HC261_2.out); (case side5 => exact Kd.C_below HR1.out (z_55 HB.out GE256.out GE262.out)); (case side6 => exact HC1.out); (case side7 => exact Kd.C_below HR2.out (z_55 HB.out GE256.out GE262.out)); (case side8 => exact HC2.out); rintro e w21 ⟨v264, rfl, ho0, hb⟩; refine ⟨_, rfl, ?_⟩; have n0_ := Aside0.mk (Kd.R_elder' (z_64 HO_10.out BK262.out) (Kd.R_base ho0) hb); have n1_ := Aside0.mk (Kd.R_lower (Kd.R_new' ho0 (Kd.R_lt (z_64 HO_10.out BK262.out))) (below_size (z_55 HB.out GE256.out GE262.out))); have n2_ := Aside0.mk (blk_below (g := gb256) (o := .cells #[.string a0_0, .slice A0_1 l0_1.length c0_1, .slice (some ad261) l0_2.length c0_2] 27 (0, 0)) (z_22 NB256_262.out BK256.out) hb); have n3_ := Aside0.mk (blk_below (g := gb262) (o := .cells #[.string ((rd_T27 l0_2 x29_1).f0), .slice A261_1 ((rd_T27 l0_2 x29_1).f1).length c261_1, .slice A261_2 ((rd_T27 l0_2 x29_1).f2).length c261_2] 27 (0, 0)) (by (with_reducible repeat (first | refine blk_drewN ?_ _ | refine blk_drew ?_ | refine blk_alloc ?_ _)); refine blk_put (cs := #[.string ((rd_T27 l0_2 x29_1).f0), .slice A261_1 ((rd_T27 l0_2 x29_1).f1).length c261_1, .slice none 0 0]) ?_ 2 _ rfl; (with_reducible repeat (first | refine blk_drewN ?_ _ | refine blk_drew ?_ | refine blk_alloc ?_ _)); refine blk_put (cs := #[.string ((rd_T27 l0_2 x29_1).f0), .slice none 0 0, .slice none 0 0]) ?_ 1 _ rfl; (with_reducible repeat (first | refine blk_drewN ?_ _ | refine blk_drew ?_ | refine blk_alloc ?_ _)); refine blk_put (cs := #[.string (⟨#[]⟩ : ByteArray), .slice none 0 0, .slice none 0 0]) ?_ 0 _ rfl; (with_reducible repeat (first | refine blk_drewN ?_ _ | refine blk_drew ?_ | refine blk_alloc ?_ _)); exact BK262.out) hb); have n4_ := Aside0.mk (below_step (z_55 HB.out GE256.out GE262.out) hb); clear HO_10; clear BK256; clear BK262; clear HB; have HO_10 := n0_; have HO265 := n1_; have BK256 := n2_; have BK262 := n3_; have HB := n4_; clear n0_ n1_ n2_ n3_ n4_; (try clear hb); (try clear hb2); (try clear hk); (try clear hi); (try clear ho0); obtain ⟨Ao23, co23, eo23⟩ := Kd.R_slice HO265.out; subst eo23) | ((with_reducible refine gate_builtin (b := .append) (xs := #[.tmp 33, .tmp 38]) rfl ?_); at_builtin; refine Kd.R_append_rows k38 (w0 := w) w.heap.size rfl (.tmp 33) (.tmp 38) 31 38 (.agg #[(.string ⟨#[]⟩), (.int .i64 0), (.int .i64 0)]) 32 rfl Try.underlying31 info38 rfl (by decide) (by omega) u10 x10_1 t263 _ _ _ (fun k_ => some k_ ≠ (.slice Ao23 t263.length co23 : Value).ownBlock) (fun _ => False) rfl rfl ?aO ?aR (fun _ _ h => h) (fun _ h => h.elim) ?aF ?aB ?aS ?aL ?_; (case aR => exact z_47 HO265.out); (case aB => exact z_55 HB.out GE256.out GE262.out); (case aF => exact (fun k_ hk => Kd.fresh' (Kd.R_lt (z_17 HO265.out)) k_ hk)); (case aO => exact z_48 HO_10.out); (case aS => exact (below_size (z_55 HB.out GE256.out GE262.out))); (case aL => have := LMc17.out; omega); intro v267 w22 ho hb hg hat; rw [← Ny266.out] at ho; have n0_ := Aside0.mk (blk_grown (g := gb256) (o := .cells #[.string a0_0, .slice A0_1 l0_1.length c0_1, .slice (some ad261) l0_2.length c0_2] 27 (0, 0)) (z_7 BK256.out) hg (Kd.R_ne HO_10.out BK256.out (by decide))); have n1_ := Aside0.mk (blk_grown (g := gb262) (o := .cells #[.string ((rd_T27 l0_2 x29_1).f0), .slice A261_1 ((rd_T27 l0_2 x29_1).f1).length c261_1, .slice A261_2 ((rd_T27 l0_2 x29_1).f2).length c261_2] 27 (0, 0)) (z_7 BK262.out) hg (Kd.R_ne HO_10.out BK262.out (by decide))); have n2_ := Aside0.mk (Kd.R_after (ok := (fun _ => True)) (z_17 HO265.out) hg hat); have n3_ := Aside0.mk (hb); have n4_ := Aside0.mk (ho); clear BK256; clear BK262; clear HO265; clear HB; clear HO_10; have BK256 := n0_; have BK262 := n1_; have HO265 := n2_; have HB := n3_; have HO268 := n4_; clear n0_ n1_ n2_ n3_ n4_; clear ho hb hg hat))
       go_roundg k1
       case measure => have := HK1.out; omega
       case rel => exact ⟨(y266), (wrap64 (x29_1 + 1)), z_3, H', ⟨by have := HK1.out; omega⟩, ⟨z_49 HO268.out⟩, ⟨z_7 BK256.out⟩, ⟨z_55 HB.out GE256.out GE262.out⟩⟩
      ·rw [if_neg c17] at H
       exact absurd H (by simp)
     ·rw [if_neg c15] at H
      exact absurd H (by simp)
    ·rw [if_neg c14] at H
     exact absurd H (by simp)
   ·rw [if_neg c13] at H
    have c13b0 : decide (x29_1 < (l0_2.length : Int)) = false := decide_eq_false c13
    clear c13
    obtain rfl := Option.some.inj H
    go_wp2
    go_ret
    exact ⟨_, z_9, z_17 HO_10.out, z_8 HB.out GE256.out⟩
end Go.Proofs.Ytdphpmejjlgpnaa.PFnLaidOver
