import Derived.Test.YtdphpmejjlgpnaaDPtE
set_option linter.unusedVariables false
set_option linter.unusedSimpArgs false
set_option linter.unusedSectionVars false
namespace Go.Proofs.Ytdphpmejjlgpnaa.Pt
open Go.RowKit Go.Proofs.Ytdphpmejjlgpnaa.PFnTreesBent Go.Proofs.YtdphpmejjlgpnaaW.PrintWords Go.Proofs.YtdphpmejjlgpnaaW.PrintLast
mutual
def subs : S27 → List S27
 | ⟨n, m, ks⟩ => ⟨n, m, ks⟩ :: subsL ks
def subsL : List S27 → List S27
 | [] => []
 | t :: ts => subs t ++ subsL ts
end
theorem subs_len : ∀ t : S27, (subs t).length = (nodes t).length := by
 refine S27.ind fun n m ks ih => ?_
 rw [subs, nodes, List.length_cons, List.length_cons]
 congr 1
 induction ks with
 | nil => rfl
 | cons t ts ih2 => rw [subsL, nodesL, List.length_append, List.length_append, ih t List.mem_cons_self, ih2 (fun u hu => ih u (List.mem_cons_of_mem _ hu))]
theorem subs_names : ∀ t : S27, (subs t).map (·.f0) = segsP t := by
 refine S27.ind fun n m ks ih => ?_
 rw [subs, segsP_eq, List.map_cons]
 congr 1
 induction ks with
 | nil => rfl
 | cons t ts ih2 => rw [subsL, segsL_cons, List.map_append, ih t List.mem_cons_self, ih2 (fun u hu => ih u (List.mem_cons_of_mem _ hu))]
theorem subs_sizes : ∀ t : S27, (subs t).map (fun s => ((nodes s).length : Int)) = sizes t := by
 refine S27.ind fun n m ks ih => ?_
 rw [subs, sizes, List.map_cons, nodes, List.length_cons, sizesLL_len]
 congr 1
 induction ks with
 | nil => rfl
 | cons t ts ih2 => rw [subsL, sizesL, List.map_append, ih t List.mem_cons_self, ih2 (fun u hu => ih u (List.mem_cons_of_mem _ hu))]
theorem subs_at : ∀ (t : S27) (i : Nat), i < (subs t).length → (nodes ((subs t).getD i z27)).length + i ≤ (subs t).length ∧ ((subs t).drop i).take (nodes ((subs t).getD i z27)).length = subs ((subs t).getD i z27) := by
 refine S27.ind fun n m ks ih i hi => ?_
 cases i with
 | zero =>
  rw [subs]
  have h := subs_len ⟨n, m, ks⟩
  rw [subs] at h
  rw [List.getD_cons_zero, List.drop_zero, ← h, List.take_length, subs]
  exact ⟨by omega, rfl⟩
 | succ i =>
  rw [subs] at hi ⊢
  rw [List.getD_cons_succ, List.drop_succ_cons, List.length_cons] at *
  have hi : i < (subsL ks).length := by simpa using hi
  have key : ∀ (ts : List S27) (j : Nat), (∀ t ∈ ts, ∀ i, i < (subs t).length → (nodes ((subs t).getD i z27)).length + i ≤ (subs t).length ∧ ((subs t).drop i).take (nodes ((subs t).getD i z27)).length = subs ((subs t).getD i z27)) →
   j < (subsL ts).length → (nodes ((subsL ts).getD j z27)).length + j ≤ (subsL ts).length ∧ ((subsL ts).drop j).take (nodes ((subsL ts).getD j z27)).length = subs ((subsL ts).getD j z27) := by
   intro ts
   induction ts with
   | nil => intro j _ hj; simp [subsL] at hj
   | cons u us ihu =>
    intro j h hj
    rw [subsL] at hj ⊢
    rw [List.length_append] at hj ⊢
    by_cases hc : j < (subs u).length
    ·obtain ⟨h1, h2⟩ := h u List.mem_cons_self j hc
     have e : (subs u ++ subsL us).getD j z27 = (subs u).getD j z27 := by
      rw [List.getD_eq_getElem?_getD, List.getD_eq_getElem?_getD, List.getElem?_append_left hc]
     rw [e]
     refine ⟨by omega, ?_⟩
     rw [List.drop_append_of_le_length (by omega), List.take_append_of_le_length (by rw [List.length_drop]; omega)]
     exact h2
    ·obtain ⟨h1, h2⟩ := ihu (j - (subs u).length) (fun t ht => h t (List.mem_cons_of_mem _ ht)) (by omega)
     have e : (subs u ++ subsL us).getD j z27 = (subsL us).getD (j - (subs u).length) z27 := by
      rw [List.getD_eq_getElem?_getD, List.getD_eq_getElem?_getD, List.getElem?_append_right (by omega)]
     rw [e]
     refine ⟨by omega, ?_⟩
     rw [List.drop_append, List.drop_eq_nil_of_le (show (subs u).length ≤ j by omega), List.nil_append]
     exact h2
  obtain ⟨h1, h2⟩ := key ks i ih hi
  exact ⟨by omega, h2⟩
mutual
def findP (a : ByteArray) : S27 → Option S27
 | ⟨n, m, ks⟩ => if n.toList = a.toList then some ⟨n, m, ks⟩ else findL a ks
def findL (a : ByteArray) : List S27 → Option S27
 | [] => none
 | t :: ts => match findP a t with
  | some x => some x
  | none => findL a ts
end
theorem find_eq (a : ByteArray) : ∀ t : S27, findP a t = (subs t).find? (fun s => decide (s.f0.toList = a.toList)) := by
 refine S27.ind fun n m ks ih => ?_
 rw [findP, subs, List.find?_cons]
 by_cases h : n.toList = a.toList
 ·rw [if_pos h]; simp [h]
 ·rw [if_neg h]
  simp only [h, decide_false]
  induction ks with
  | nil => rfl
  | cons t ts ih2 =>
   rw [findL, subsL, List.find?_append, ih t List.mem_cons_self, ih2 (fun u hu => ih u (List.mem_cons_of_mem _ hu))]
   cases List.find? _ (subs t) <;> rfl
def res4 (o : Option S27) : ByteArray × List ByteArray × List S27 × Bool := match o with
 | some x => (x.f0, x.f1, x.f2, true)
 | none => (⟨#[]⟩, [], [], false)
theorem find_loop (a : ByteArray) (ks : List S27) (hk : ks.length ≤ 1000) (ih : ∀ t ∈ ks, Ev (fun k => spec_Above.fd k t.f0 t.f1 t.f2 a) (res4 (findP a t))) :
 ∀ (r i : Nat), i + r = ks.length → Ev (fun k => spec_Above.fl k ks a (i : Int)) (res4 (findL a (ks.drop i)))
 | 0, i, he => by
  refine Ev.next ?_
  unfold spec_Above.fl
  rw [show ks.drop i = [] from List.drop_eq_nil_of_le (by omega)]
  exact Ev.neg (by omega) (Ev.ok _)
 | r + 1, i, he => by
  have hi : i < ks.length := by omega
  refine Ev.next ?_
  unfold spec_Above.fl
  refine Ev.pos (by omega) (Ev.pos (by omega) ?_)
  rw [rd27, wi (by omega), drop_at hi z27, findL]
  refine Ev.bind (ih _ (getD_mem hi z27)) ?_
  cases findP a (ks.getD i z27) with
  | some x => exact Ev.pos rfl (Ev.ok _)
  | none => exact Ev.neg (by simp [res4]) (find_loop a ks hk ih r (i + 1) (by omega))
theorem find_ev (a : ByteArray) : ∀ t : S27, (nodes t).length ≤ 1000 → Ev (fun k => spec_Above.fd k t.f0 t.f1 t.f2 a) (res4 (findP a t)) := by
 refine S27.ind fun n m ks ih hl => ?_
 rw [nodes, List.length_cons] at hl
 have hk := kids_le ks
 refine Ev.next ?_
 unfold spec_Above.fd
 rw [findP]
 by_cases h : n.toList = a.toList
 ·rw [if_pos h]; exact Ev.pos h (Ev.ok _)
 ·rw [if_neg h]
  exact Ev.neg h (find_loop a ks (by omega) (fun t ht => ih t ht (by have := nodesL_len ht; omega)) ks.length 0 (by omega))
theorem place_find (a : ByteArray) : ∀ (L : List S27) (j : Int), 0 ≤ j → (L.find? (fun s => decide (s.f0.toList = a.toList)) = none ∧ placeFrom a (L.map (·.f0)) j = -1) ∨
 ∃ i : Nat, i < L.length ∧ placeFrom a (L.map (·.f0)) j = j + i ∧ L.find? (fun s => decide (s.f0.toList = a.toList)) = some (L.getD i z27) ∧ (L.getD i z27).f0.toList = a.toList
 | [], j, _ => .inl ⟨rfl, rfl⟩
 | s :: L, j, hj => by
  rw [List.map_cons, placeFrom, List.find?_cons]
  by_cases h : s.f0.toList = a.toList
  ·right
   rw [if_pos h]
   refine ⟨0, by simp, by simp, by simp [h], ?_⟩
   rw [List.getD_cons_zero]; exact h
  ·rw [if_neg h]
   simp only [h, decide_false]
   rcases place_find a L (j + 1) (by omega) with ⟨h1, h2⟩ | ⟨i, h1, h2, h3, h4⟩
   ·exact .inl ⟨h1, h2⟩
   ·refine .inr ⟨i + 1, by simp only [List.length_cons]; omega, by rw [h2]; omega, ?_, ?_⟩
    ·rw [List.getD_cons_succ]; exact h3
    ·rw [List.getD_cons_succ]; exact h4
end Go.Proofs.Ytdphpmejjlgpnaa.Pt
