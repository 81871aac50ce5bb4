import Derived.Test.YtdphpmejjlgpnaaDPtF
set_option linter.unusedVariables false
set_option linter.unusedSimpArgs false
set_option linter.unusedSectionVars false
namespace Go.Proofs.Ytdphpmejjlgpnaa.Pt
open Go.RowKit Go.Proofs.Ytdphpmejjlgpnaa.PFnTreesBent Go.Proofs.YtdphpmejjlgpnaaW.PrintWords Go.Proofs.YtdphpmejjlgpnaaW.PrintLast
def abv (t : S27) (a b : ByteArray) : Bool := match findP a t, findP b t with
 | some x, some y => (findP b x).isSome || (findP a y).isSome
 | _, _ => false
theorem find_mem {a : ByteArray} {t x : S27} (h : findP a t = some x) : (nodes x).length ≤ (nodes t).length := by
 rw [find_eq] at h
 obtain ⟨i, hi, rfl⟩ := List.mem_iff_getElem.1 (List.mem_of_find?_eq_some h)
 have := (subs_at t i hi).1
 rw [List.getD_eq_getElem?_getD, List.getElem?_eq_getElem hi, Option.getD_some, subs_len] at this
 omega
theorem res4_some (o : Option S27) : (res4 o).2.2.2 = o.isSome := by cases o <;> rfl
theorem sabove_ev (t : S27) (hl : (nodes t).length ≤ 1000) (a b : ByteArray) : Ev (fun k => spec_Above.f k t.f0 t.f1 t.f2 a b) (abv t a b) := by
 unfold spec_Above.f abv
 refine Ev.bind (find_ev a t hl) (Ev.bind (find_ev b t hl) ?_)
 cases ha : findP a t with
 | none => exact Ev.neg (by simp [res4]) (Ev.ok _)
 | some x =>
  refine Ev.pos rfl ?_
  cases hb : findP b t with
  | none => exact Ev.neg (by simp [res4]) (Ev.ok _)
  | some y =>
   refine Ev.pos rfl (Ev.bind (find_ev b x (by have := find_mem ha; omega)) (Ev.bind (find_ev a y (by have := find_mem hb; omega)) ((Ev.ok _).eq ?_)))
   show ((res4 (findP b x)).2.2.2 || (res4 (findP a y)).2.2.2) = _
   rw [res4_some, res4_some]
def sz (t : S27) (i : Int) : Int := rd (sizes t) i
def iab (t : S27) (a b : ByteArray) : Bool :=
 if placeFrom a (segsP t) 0 < 0 ∨ placeFrom b (segsP t) 0 < 0 then false else
  (decide (placeFrom a (segsP t) 0 ≤ placeFrom b (segsP t) 0 ∧ placeFrom b (segsP t) 0 ≤ placeFrom a (segsP t) 0 + sz t (placeFrom a (segsP t) 0) - 1) ||
   decide (placeFrom b (segsP t) 0 ≤ placeFrom a (segsP t) 0 ∧ placeFrom a (segsP t) 0 ≤ placeFrom b (segsP t) 0 + sz t (placeFrom b (segsP t) 0) - 1))
theorem iab_comm (t : S27) (a b : ByteArray) : iab t a b = iab t b a := by
 unfold iab
 rw [Bool.or_comm]
 by_cases h : placeFrom a (segsP t) 0 < 0 ∨ placeFrom b (segsP t) 0 < 0
 ·rw [if_pos h, if_pos (Or.comm.1 h)]
 ·rw [if_neg h, if_neg (fun h2 => h (Or.comm.1 h2))]
theorem size_bd (t : S27) (i : Nat) (hi : i < (nodes t).length) : sz t i = ((nodes ((subs t).getD i z27)).length : Int) ∧ (nodes ((subs t).getD i z27)).length + i ≤ (nodes t).length := by
 have hl := subs_len t
 have h := (subs_at t i (by omega)).1
 refine ⟨?_, by omega⟩
 unfold sz
 rw [rdI, ← subs_sizes, List.getD_eq_getElem?_getD, List.getElem?_map, List.getElem?_eq_getElem (by omega), List.getD_eq_getElem?_getD, List.getElem?_eq_getElem (by omega)]
 rfl
theorem iabove_ev (t : S27) (hl : (nodes t).length ≤ 1000) (a b : ByteArray) : Ev (fun k => impl_Above.f k t.f0 t.f1 t.f2 a b) (iab t a b) := by
 have hs := segsP_len t
 have hz := sizesL_len t
 have no (i j : Int) : Ev (fun k => impl_Above.j0 k (sizes t) i j true) false := by
  refine Ev.next ?_
  unfold impl_Above.j0
  exact Ev.pos rfl (Ev.ok _)
 have pa := place_ge a (segsP t) 0 (by omega)
 have pb := place_ge b (segsP t) 0 (by omega)
 unfold impl_Above.f
 refine Ev.bind (segs_ev t hl) (Ev.bind (sizes_ev t hl) (Ev.bind (place_ev a _ (by omega)) (Ev.bind (place_ev b _ (by omega)) ?_)))
 unfold iab
 generalize placeFrom a (segsP t) 0 = i at *
 generalize placeFrom b (segsP t) 0 = j at *
 by_cases h1 : i < 0
 ·rw [if_pos (.inl h1)]; exact Ev.pos h1 (no i j)
 ·refine Ev.neg h1 ?_
  by_cases h2 : j < 0
  ·rw [if_pos (.inr h2), decide_eq_true h2]; exact no i j
  ·rw [if_neg (by omega), decide_eq_false h2]
   obtain ⟨i, rfl⟩ : ∃ n : Nat, i = n := ⟨i.toNat, by omega⟩
   obtain ⟨j, rfl⟩ : ∃ n : Nat, j = n := ⟨j.toNat, by omega⟩
   have hi := size_bd t i (by omega)
   have hj := size_bd t j (by omega)
   have bi : 0 ≤ sz t i ∧ sz t i ≤ 1000 := by omega
   have bj : 0 ≤ sz t j ∧ sz t j ≤ 1000 := by omega
   refine Ev.next ?_
   unfold impl_Above.j0
   refine Ev.neg (by simp) (Ev.pos (by omega) (Ev.pos (by omega) ?_))
   rw [within_eq, wid (n := (i : Int) + rd (sizes t) i) (by unfold sz at bi; omega) (by unfold sz at bi; omega), wid (n := (i : Int) + rd (sizes t) i - 1) (by unfold sz at bi; omega) (by unfold sz at bi; omega)]
   refine Ev.bind (Ev.ok _) ?_
   show Ev (fun k => if decide ((i : Int) ≤ j ∧ (j : Int) ≤ i + sz t i - 1) = true then _ else _) _
   cases decide ((i : Int) ≤ j ∧ (j : Int) ≤ i + sz t i - 1) with
   | true => exact Ev.pos rfl (Ev.ok _)
   | false =>
    refine Ev.neg (by simp) (Ev.pos (by omega) (Ev.pos (by omega) ?_))
    rw [within_eq, wid (n := (j : Int) + rd (sizes t) j) (by unfold sz at bj; omega) (by unfold sz at bj; omega), wid (n := (j : Int) + rd (sizes t) j - 1) (by unfold sz at bj; omega) (by unfold sz at bj; omega)]
    exact Ev.bind (Ev.ok _) (Ev.ok _)
def Uq (t : S27) : Prop := (segsL t.f2).Nodup
theorem uq_at {t : S27} (h : Uq t) {p q : Nat} (hp : 1 ≤ p) (hq : 1 ≤ q) (hpl : p < (subs t).length) (hql : q < (subs t).length) (e : ((subs t).getD p z27).f0 = ((subs t).getD q z27).f0) : p = q := by
 have hn := subs_names t
 obtain ⟨n, m, ks⟩ := t
 rw [segsP_eq] at hn
 rw [subs, List.map_cons] at hn
 injection hn with _ hn
 rw [subs] at hpl hql e
 obtain ⟨p, rfl⟩ : ∃ r, p = r + 1 := ⟨p - 1, by omega⟩
 obtain ⟨q, rfl⟩ : ∃ r, q = r + 1 := ⟨q - 1, by omega⟩
 rw [List.getD_cons_succ, List.getD_cons_succ] at e
 simp only [List.length_cons] at hpl hql
 unfold Uq at h
 rw [← hn] at h
 have at_ (r : Nat) (hr : r < (subsL ks).length) : ((subsL ks).getD r z27).f0 = ((subsL ks).map (·.f0))[r]'(by rw [List.length_map]; exact hr) := by
  rw [List.getElem_map, List.getD_eq_getElem?_getD, List.getElem?_eq_getElem hr]; rfl
 rw [at_ p (by omega), at_ q (by omega)] at e
 have hw := List.pairwise_iff_getElem.1 h
 rcases Nat.lt_trichotomy p q with hlt | rfl | hgt
 ·exact absurd e (hw p q _ _ hlt)
 ·rfl
 ·exact absurd e.symm (hw q p _ _ hgt)
theorem below_iff {t : S27} (h : Uq t) {b : ByteArray} {i j : Nat} (hi1 : 1 ≤ i) (hj1 : 1 ≤ j) (hi : i < (subs t).length) (hj : j < (subs t).length) (hb : ((subs t).getD j z27).f0.toList = b.toList) :
 (findP b ((subs t).getD i z27)).isSome = decide ((i : Int) ≤ j ∧ (j : Int) ≤ i + ((nodes ((subs t).getD i z27)).length : Int) - 1) := by
 obtain ⟨h1, h2⟩ := subs_at t i hi
 generalize hx : (subs t).getD i z27 = x at *
 rw [find_eq, ← h2, Bool.eq_iff_iff, List.find?_isSome, decide_eq_true_eq]
 constructor
 ·rintro ⟨s, hs, hsb⟩
  obtain ⟨q, hq, rfl⟩ := List.mem_iff_getElem.1 hs
  rw [List.length_take, List.length_drop] at hq
  rw [List.getElem_take, List.getElem_drop, decide_eq_true_eq] at hsb
  have e : ((subs t).getD (i + q) z27).f0 = ((subs t).getD j z27).f0 := by
   rw [List.getD_eq_getElem?_getD (i := i + q), List.getElem?_eq_getElem (by omega), Option.getD_some]
   exact lst_inj (hsb.trans hb.symm)
  have := uq_at h (by omega) hj1 (by omega) hj e
  omega
 ·rintro ⟨h3, h4⟩
  refine ⟨(subs t).getD j z27, ?_, by rw [decide_eq_true_eq]; exact hb⟩
  rw [List.mem_iff_getElem]
  refine ⟨j - i, by rw [List.length_take, List.length_drop]; omega, ?_⟩
  rw [List.getElem_take, List.getElem_drop, List.getD_eq_getElem?_getD, List.getElem?_eq_getElem hj, Option.getD_some]
  congr 1
  omega
theorem iab_eq {t : S27} (h : Uq t) (a b : ByteArray) : iab t a b = abv t a b := by
 have hl := subs_len t
 have pa := place_find a (subs t) 0 (by omega)
 have pb := place_find b (subs t) 0 (by omega)
 rw [subs_names, ← find_eq] at pa pb
 unfold iab abv
 rcases pa with ⟨a1, a2⟩ | ⟨i, hi, a2, a1, a3⟩
 ·rw [a1, a2, if_pos (.inl (by omega))]
 ·rcases pb with ⟨b1, b2⟩ | ⟨j, hj, b2, b1, b3⟩
  ·rw [a1, b1, b2, if_pos (.inr (by omega))]
  ·rw [a1, b1, a2, b2, if_neg (by omega), Int.zero_add, Int.zero_add]
   have si := size_bd t i (by omega)
   have sj := size_bd t j (by omega)
   rw [si.1, sj.1]
   have z0 : (subs t).getD 0 z27 = t := by cases t; rw [subs, List.getD_cons_zero]
   by_cases hi0 : i = 0
   ·subst hi0
    rw [z0] at a1 ⊢
    show _ = ((findP b t).isSome || (findP a ((subs t).getD j z27)).isSome)
    rw [b1, decide_eq_true (show ((0 : Nat) : Int) ≤ j ∧ (j : Int) ≤ (0 : Nat) + ((nodes t).length : Int) - 1 by omega)]
    rfl
   ·by_cases hj0 : j = 0
    ·subst hj0
     rw [z0] at b1 ⊢
     show _ = ((findP b ((subs t).getD i z27)).isSome || (findP a t).isSome)
     rw [a1, decide_eq_true (show ((0 : Nat) : Int) ≤ i ∧ (i : Int) ≤ (0 : Nat) + ((nodes t).length : Int) - 1 by omega), Bool.or_true]
     simp
    ·show _ = ((findP b ((subs t).getD i z27)).isSome || (findP a ((subs t).getD j z27)).isSome)
     rw [below_iff h (by omega) (by omega) hi hj b3, below_iff h (by omega) (by omega) hj hi a3]
end Go.Proofs.Ytdphpmejjlgpnaa.Pt
