import Derived.Test.YtdphpmejjlgpnaaDPtC
set_option linter.unusedVariables false
set_option linter.unusedSimpArgs false
set_option linter.unusedSectionVars false
namespace Go.Proofs.Ytdphpmejjlgpnaa.Pt
open Go.RowKit Go.Proofs.Ytdphpmejjlgpnaa.PFnTreesBent Go.Proofs.YtdphpmejjlgpnaaW.PrintWords Go.Proofs.YtdphpmejjlgpnaaW.PrintLast
mutual
def wOk : Int → S27 → Bool
 | d, ⟨n, m, ks⟩ => decide (d ≤ 4) && (nameOk n && (decide (m.length ≤ 6) && (m.all nameOk && wOkL (d + 1) ks)))
def wOkL : Int → List S27 → Bool
 | _, [] => true
 | d, t :: ts => wOk d t && wOkL d ts
end
def Gt (nm md : List ByteArray) (t : S27) (d : Int) : Bool := wOk d t && (ndp (nm ++ segsP t) && ndp (md ++ modsP t))
def Gs (nm md : List ByteArray) (ts : List S27) (d : Int) : Bool := wOkL d ts && (ndp (nm ++ segsL ts) && ndp (md ++ modsL ts))
theorem wk_bad (nm md : List ByteArray) (n : ByteArray) (m : List ByteArray) (ks : List S27) (d : Int) : Ev (fun k => spec_SegOk.wk k nm md true n m ks d) (nm, md, true) := by
 refine Ev.next ?_
 unfold spec_SegOk.wk
 exact Ev.pos rfl (Ev.ok _)
def mb : Bool → List ByteArray → List ByteArray → Bool
 | b, _, [] => b
 | b, md, x :: xs => mb (b || (!nameOk x || decide (0 ≤ placeFrom x md 0))) (md ++ [x]) xs
theorem mb_true : ∀ (l md : List ByteArray), mb true md l = true
 | [], _ => rfl
 | x :: xs, md => by rw [mb, Bool.true_or]; exact mb_true xs _
theorem snoc_ndp {md : List ByteArray} {x : ByteArray} (h : ndp md = true) (hx : x ∉ md) : ndp (md ++ [x]) = true := by
 rw [ndp_iff] at h ⊢
 exact List.nodup_append.2 ⟨h, by simp, fun a ha b hb => by rw [List.mem_singleton.1 hb]; exact fun e => hx (e ▸ ha)⟩
theorem mem_ndp {md xs : List ByteArray} {x : ByteArray} (hx : x ∈ md) : ndp (md ++ x :: xs) = false := by
 rw [Bool.eq_false_iff]
 intro h
 exact (List.nodup_append.1 (ndp_iff.1 h)).2.2 x hx x List.mem_cons_self rfl
theorem mb_eq : ∀ (l md : List ByteArray) (b : Bool), ndp md = true → mb b md l = (b || !(l.all nameOk && ndp (md ++ l)))
 | [], md, b, h => by simp [mb, h]
 | x :: xs, md, b, h => by
  rw [mb]
  cases b with
  | true => rw [Bool.true_or, Bool.true_or]; exact mb_true _ _
  | false =>
   cases hn : nameOk x with
   | false => simp [mb_true, hn]
   | true =>
    by_cases hx : x ∈ md
    ·rw [decide_eq_true ((place_mem _ _ 0 (Int.le_refl _)).2 hx), mem_ndp hx]; simp [mb_true]
    ·rw [decide_eq_false (fun hc => hx ((place_mem _ _ 0 (Int.le_refl _)).1 hc)), mb_eq xs _ _ (snoc_ndp h hx)]
     simp [hn]
theorem wm_ev (nm m : List ByteArray) (hm : m.length ≤ 1000) (hN : ∀ x ∈ m, Nm x) (ks : List S27) (d : Int) (V : List ByteArray × List ByteArray × Bool) :
 ∀ (r i : Nat) (md : List ByteArray) (b : Bool), i + r = m.length → md.length + r ≤ 10000 → Ev (fun k => spec_SegOk.wl k nm (md ++ m.drop i) (mb b md (m.drop i)) ks d 0) V → Ev (fun k => spec_SegOk.wm k nm md b m ks d (i : Int)) V
 | 0, i, md, b, he, _, h => by
  refine Ev.next ?_
  unfold spec_SegOk.wm
  refine Ev.neg (by omega) ?_
  rw [show m.drop i = [] from List.drop_eq_nil_of_le (by omega), List.append_nil] at h
  exact h
 | r + 1, i, md, b, he, hl, h => by
  have hi : i < m.length := by omega
  refine Ev.next ?_
  unfold spec_SegOk.wm
  refine Ev.pos (by omega) (Ev.pos (by omega) ?_)
  rw [rdB, wi (by omega)]
  rw [drop_at hi ByteArray.empty, mb] at h
  have go (b' : Bool) (hb : b' = (b || (!nameOk (m.getD i ByteArray.empty) || decide (0 ≤ placeFrom (m.getD i ByteArray.empty) md 0)))) : Ev (fun k => spec_SegOk.wm k nm (md ++ [m.getD i ByteArray.empty]) b' m ks d ((i + 1 : Nat) : Int)) V := by
   refine wm_ev nm m hm hN ks d V r (i + 1) _ b' (by omega) (by simp only [List.length_append, List.length_cons, List.length_nil]; omega) ?_
   rw [hb, List.append_assoc]
   exact h
  refine Ev.bind (hN _ (getD_mem hi _)).2 (Ev.pos (by omega) ?_)
  cases hn : nameOk (m.getD i ByteArray.empty) with
  | false => exact Ev.neg (by simp) (go true (by rw [hn]; simp))
  | true =>
   refine Ev.pos rfl (Ev.bind (at_ev _ _ (by omega)) (Ev.ite (fun hc => go true ?_) (fun hc => go b ?_)))
   ·rw [decide_eq_true hc]; simp
   ·rw [decide_eq_false hc, hn]; simp
structure Left (nm md nm' md' ns ms : List ByteArray) (g : Bool) : Prop where
 yes : g = true → nm' = nm ++ ns ∧ md' = md ++ ms
 ln : nm'.length ≤ nm.length + ns.length
 lm : md'.length ≤ md.length + ms.length
theorem wl_ev (ks : List S27) (hk : ks.length ≤ 1000) (d : Int) (h0 : 0 ≤ d) (hd : d ≤ 100)
 (ih : ∀ t ∈ ks, ∀ nm md : List ByteArray, nm.length + (segsP t).length ≤ 10000 → md.length + (modsP t).length ≤ 10000 → ndp nm = true → ndp md = true → ∃ nm' md', Ev (fun k => spec_SegOk.wk k nm md false t.f0 t.f1 t.f2 (d + 1)) (nm', md', !Gt nm md t (d + 1)) ∧ Left nm md nm' md' (segsP t) (modsP t) (Gt nm md t (d + 1))) :
 ∀ (r i : Nat) (nm md : List ByteArray) (b : Bool), i + r = ks.length → nm.length + (segsL (ks.drop i)).length ≤ 10000 → md.length + (modsL (ks.drop i)).length ≤ 10000 → (b = false → ndp nm = true ∧ ndp md = true) →
  ∃ nm' md', Ev (fun k => spec_SegOk.wl k nm md b ks d (i : Int)) (nm', md', b || !Gs nm md (ks.drop i) (d + 1)) ∧ Left nm md nm' md' (segsL (ks.drop i)) (modsL (ks.drop i)) (!b && Gs nm md (ks.drop i) (d + 1))
 | 0, i, nm, md, b, he, _, _, hb => by
  rw [show ks.drop i = [] from List.drop_eq_nil_of_le (by omega)]
  have e : segsL [] = [] := rfl
  have e2 : modsL [] = [] := rfl
  refine ⟨nm, md, Ev.next ?_, ⟨fun _ => by rw [e, e2, List.append_nil, List.append_nil]; exact ⟨rfl, rfl⟩, by omega, by omega⟩⟩
  unfold spec_SegOk.wl
  refine Ev.neg (by omega) ((Ev.ok _).eq ?_)
  cases b with
  | true => rfl
  | false =>
   obtain ⟨h1, h2⟩ := hb rfl
   unfold Gs
   rw [e, e2, List.append_nil, List.append_nil, h1, h2]; rfl
 | r + 1, i, nm, md, b, he, hl1, hl2, hb => by
  have hi : i < ks.length := by omega
  rw [drop_at hi z27, segsL_cons, List.length_append] at hl1
  rw [drop_at hi z27, modsL_cons, List.length_append] at hl2
  have step {nm1 md1 : List ByteArray} {b1 : Bool} (h : Ev (fun k => spec_SegOk.wk k nm md b (ks.getD i z27).f0 (ks.getD i z27).f1 (ks.getD i z27).f2 (d + 1)) (nm1, md1, b1)) {V : List ByteArray × List ByteArray × Bool}
   (h2 : Ev (fun k => spec_SegOk.wl k nm1 md1 b1 ks d ((i + 1 : Nat) : Int)) V) : Ev (fun k => spec_SegOk.wl k nm md b ks d (i : Int)) V := by
   refine Ev.next ?_
   unfold spec_SegOk.wl
   refine Ev.pos (by omega) (Ev.pos (by omega) ?_)
   rw [rd27, wi (by omega), wid (n := d + 1) (by omega) (by omega)]
   exact Ev.bind h h2
  rw [drop_at hi z27]
  have ht := getD_mem hi z27
  generalize ks.getD i z27 = t at *
  rw [segsL_cons, modsL_cons]
  cases b with
  | true =>
   obtain ⟨nm', md', h1, h2⟩ := wl_ev ks hk d h0 hd ih r (i + 1) nm md true (by omega) (by omega) (by omega) (fun h => by cases h)
   refine ⟨nm', md', step (wk_bad nm md _ _ _ _) h1, ⟨fun h => by simp at h, ?_, ?_⟩⟩
   ·have := h2.ln; rw [List.length_append]; omega
   ·have := h2.lm; rw [List.length_append]; omega
  | false =>
   obtain ⟨hn1, hn2⟩ := hb rfl
   obtain ⟨nm1, md1, e1, l1⟩ := ih t ht nm md (by omega) (by omega) hn1 hn2
   have l1n := l1.ln
   have l1m := l1.lm
   cases hg : Gt nm md t (d + 1) with
   | true =>
    rw [hg] at e1 l1
    obtain ⟨rfl, rfl⟩ := l1.yes rfl
    unfold Gt at hg
    rw [Bool.and_eq_true, Bool.and_eq_true] at hg
    obtain ⟨g1, g2, g3⟩ := hg
    obtain ⟨nm', md', h1, h2⟩ := wl_ev ks hk d h0 hd ih r (i + 1) (nm ++ segsP t) (md ++ modsP t) false (by omega) (by rw [List.length_append]; omega) (by rw [List.length_append]; omega) (fun _ => ⟨g2, g3⟩)
    have e : Gs nm md (t :: ks.drop (i + 1)) (d + 1) = Gs (nm ++ segsP t) (md ++ modsP t) (ks.drop (i + 1)) (d + 1) := by
     unfold Gs
     rw [wOkL, g1, Bool.true_and, segsL_cons, modsL_cons, List.append_assoc, List.append_assoc]
    rw [e]
    refine ⟨nm', md', step e1 h1, ⟨fun h => ?_, ?_, ?_⟩⟩
    ·obtain ⟨a, b⟩ := h2.yes h
     rw [a, b, List.append_assoc, List.append_assoc]; exact ⟨rfl, rfl⟩
    ·have := h2.ln; simp only [List.length_append] at *; omega
    ·have := h2.lm; simp only [List.length_append] at *; omega
   | false =>
    rw [hg] at e1
    obtain ⟨nm', md', h1, h2⟩ := wl_ev ks hk d h0 hd ih r (i + 1) nm1 md1 true (by omega) (by omega) (by omega) (fun h => by cases h)
    have e : Gs nm md (t :: ks.drop (i + 1)) (d + 1) = false := by
     rw [Bool.eq_false_iff]
     intro h
     unfold Gs at h
     rw [wOkL, segsL_cons, modsL_cons, ← List.append_assoc, ← List.append_assoc, Bool.and_eq_true, Bool.and_eq_true, Bool.and_eq_true] at h
     obtain ⟨⟨a, _⟩, b, c⟩ := h
     unfold Gt at hg
     rw [a, ndp_left b, ndp_left c] at hg
     cases hg
    rw [e]
    refine ⟨nm', md', step e1 h1, ⟨fun h => by simp at h, ?_, ?_⟩⟩
    ·have := h2.ln; simp only [List.length_append] at *; omega
    ·have := h2.lm; simp only [List.length_append] at *; omega
theorem wk_ev : ∀ (t : S27) (d : Int), 0 ≤ d → d ≤ 100 → Few t → Named (nodes t) → ∀ nm md : List ByteArray, nm.length + (segsP t).length ≤ 10000 → md.length + (modsP t).length ≤ 10000 → ndp nm = true → ndp md = true →
 ∃ nm' md', Ev (fun k => spec_SegOk.wk k nm md false t.f0 t.f1 t.f2 d) (nm', md', !Gt nm md t d) ∧ Left nm md nm' md' (segsP t) (modsP t) (Gt nm md t d) := by
 refine S27.ind fun n m ks ih d h0 hd hf hn nm md hl1 hl2 hd1 hd2 => ?_
 have hm := hf.mods
 have hk := hf.kids
 have hkl := hk.len
 rw [nodes] at hn
 obtain ⟨n1, n2⟩ := hn (n, m) List.mem_cons_self
 rw [segsP_eq] at hl1 ⊢
 rw [modsP_eq] at hl2 ⊢
 rw [List.length_cons] at hl1
 rw [List.length_append] at hl2
 have out (hg : Gt nm md ⟨n, m, ks⟩ d = false) (h : Ev (fun k => spec_SegOk.wk k nm md false n m ks d) (nm, md, true)) : ∃ nm' md', Ev (fun k => spec_SegOk.wk k nm md false n m ks d) (nm', md', !Gt nm md ⟨n, m, ks⟩ d) ∧ Left nm md nm' md' (n :: segsL ks) (m ++ modsL ks) (Gt nm md ⟨n, m, ks⟩ d) := by
  rw [hg]
  exact ⟨nm, md, h, ⟨(fun h => by cases h), by omega, by omega⟩⟩
 have hG : Gt nm md ⟨n, m, ks⟩ d = ((decide (d ≤ 4) && (nameOk n && (decide (m.length ≤ 6) && (m.all nameOk && wOkL (d + 1) ks)))) && (ndp (nm ++ n :: segsL ks) && ndp (md ++ (m ++ modsL ks)))) := by
  unfold Gt
  rw [wOk, segsP_eq, modsP_eq]
 by_cases h4 : d ≤ 4
 ·cases hn1 : nameOk n with
  | false =>
   refine out (by rw [hG, hn1]; simp) (Ev.next ?_)
   unfold spec_SegOk.wk
   exact Ev.neg (by simp) (Ev.neg (by omega) (Ev.bind n1.2 (Ev.neg (by simp [hn1]) (Ev.ok _))))
  | true =>
   by_cases hin : n ∈ nm
   ·refine out (by rw [hG, mem_ndp hin]; simp) (Ev.next ?_)
    unfold spec_SegOk.wk
    exact Ev.neg (by simp) (Ev.neg (by omega) (Ev.bind n1.2 (Ev.pos hn1 (Ev.bind (at_ev _ _ (by omega)) (Ev.pos ((place_mem _ _ 0 (Int.le_refl _)).2 hin) (Ev.ok _))))))
   ·by_cases h6 : m.length ≤ 6
    ·have hsn := snoc_ndp hd1 hin
     have hmb := mb_eq m md false hd2
     obtain ⟨nm', md', e1, l1⟩ := wl_ev ks (by omega) d h0 (by omega) (fun t ht nm md a b c e => ih t ht (d + 1) (by omega) (by omega) (hk.kid ht) (Named.kid (fun p hp => hn p (List.mem_cons_of_mem _ hp)) ht) nm md a b c e) ks.length 0 (nm ++ [n]) (md ++ m) (mb false md m) (by omega)
      (by simp only [List.length_append, List.length_cons, List.length_nil, List.drop_zero]; omega) (by simp only [List.length_append, List.drop_zero]; omega)
      (fun hb => ⟨hsn, by rw [hmb] at hb; simp only [Bool.false_or, Bool.not_eq_false', Bool.and_eq_true] at hb; exact hb.2⟩)
     rw [List.drop_zero] at e1 l1
     have hw : Ev (fun k => spec_SegOk.wk k nm md false n m ks d) (nm', md', mb false md m || !Gs (nm ++ [n]) (md ++ m) ks (d + 1)) := by
      refine Ev.next ?_
      unfold spec_SegOk.wk
      refine Ev.neg (by simp) (Ev.neg (by omega) (Ev.bind n1.2 (Ev.pos hn1 (Ev.bind (at_ev _ _ (by omega)) (Ev.neg (fun hc => hin ((place_mem _ _ 0 (Int.le_refl _)).1 hc)) (Ev.neg (by omega) (Ev.pos (by omega) ?_)))))))
      exact wm_ev (nm ++ [n]) m (by omega) n2 ks d _ m.length 0 md false (by omega) (by omega) e1
     have e : Gt nm md ⟨n, m, ks⟩ d = (!mb false md m && Gs (nm ++ [n]) (md ++ m) ks (d + 1)) := by
      rw [hG, hmb, decide_eq_true h4, hn1, decide_eq_true h6]
      unfold Gs
      rw [List.append_assoc, List.append_assoc, List.singleton_append]
      cases hA : m.all nameOk with
      | false => simp
      | true =>
       cases hB : ndp (md ++ m) with
       | true => simp
       | false =>
        have : ndp (md ++ (m ++ modsL ks)) = false := by
         rw [Bool.eq_false_iff]
         intro h
         rw [← List.append_assoc] at h
         rw [ndp_left h] at hB
         cases hB
        rw [this]; simp
     refine ⟨nm', md', hw.eq (by rw [e]; simp), ⟨fun h => ?_, ?_, ?_⟩⟩
     ·rw [e] at h
      obtain ⟨a, b⟩ := l1.yes h
      rw [a, b, List.append_assoc, List.append_assoc]; exact ⟨rfl, rfl⟩
     ·have := l1.ln; simp only [List.length_append, List.length_cons, List.length_nil] at *; omega
     ·have := l1.lm; simp only [List.length_append] at *; omega
    ·refine out (by rw [hG, decide_eq_false h6]; simp) (Ev.next ?_)
     unfold spec_SegOk.wk
     exact Ev.neg (by simp) (Ev.neg (by omega) (Ev.bind n1.2 (Ev.pos hn1 (Ev.bind (at_ev _ _ (by omega)) (Ev.neg (fun hc => hin ((place_mem _ _ 0 (Int.le_refl _)).1 hc)) (Ev.pos (by omega) (Ev.ok _)))))))
 ·refine out (by rw [hG, decide_eq_false h4]; simp) (Ev.next ?_)
  unfold spec_SegOk.wk
  exact Ev.neg (by simp) (Ev.pos (by omega) (Ev.ok _))
theorem tw : ∀ (t : S27) (d : Int), (nodes t).length ≤ 12 → tOk d t = wOk (5 - d) t := by
 refine S27.ind fun n m ks ih d hl => ?_
 rw [nodes, List.length_cons] at hl
 have hk := kids_le ks
 rw [tOk, wOk, decide_eq_true (show ks.length ≤ 12 by omega), Bool.true_and]
 have h1 : decide (1 ≤ d) = decide (5 - d ≤ 4) := by simp only [decide_eq_decide]; omega
 rw [h1]
 have h2 : tOkL (d - 1) ks = wOkL (5 - d + 1) ks := by
  clear hk h1
  induction ks with
  | nil => rfl
  | cons t ts ih2 =>
   rw [nodesL, List.length_append] at hl
   rw [tOkL, wOkL, ih t List.mem_cons_self (d - 1) (by omega), ih2 (fun u hu => ih u (List.mem_cons_of_mem _ hu)) (by omega)]
   rw [show 5 - (d - 1) = 5 - d + 1 by omega]
 rw [h2]
theorem sok_ev (t : S27) (hf : Few t) (hn : Named (nodes t)) : Ev (fun k => spec_SegOk.f k t.f0 t.f1 t.f2) (iok t) := by
 have hs := segsP_few hf
 have hsl := segsP_len t
 have hms : (modsP t).length ≤ 10 * (nodes t).length := mods_few hf.2
 have h1 := hf.1
 obtain ⟨nm', md', e, l⟩ := wk_ev t 1 (by omega) (by omega) hf hn [] [] (by simp only [List.length_nil]; omega) (by simp only [List.length_nil]; omega) (by decide) (by decide)
 unfold spec_SegOk.f
 refine (Ev.bind e (Ev.ok _)).eq ?_
 show (!(!Gt [] [] t 1) && decide ((nm'.length : Int) ≤ 12)) = iok t
 rw [Bool.not_not]
 unfold iok
 cases hg : Gt [] [] t 1 with
 | true =>
  rw [hg] at l
  obtain ⟨rfl, _⟩ := l.yes rfl
  unfold Gt at hg
  rw [List.nil_append, List.nil_append, Bool.and_eq_true, Bool.and_eq_true] at hg
  obtain ⟨a, b, c⟩ := hg
  rw [List.nil_append, b, c]
  by_cases h12 : (segsP t).length ≤ 12
  ·rw [tw t 4 (by omega), show (5 : Int) - 4 = 1 from rfl, a, decide_eq_true h12, decide_eq_true (show ((segsP t).length : Int) ≤ 12 by omega)]; rfl
  ·rw [decide_eq_false h12, decide_eq_false (show ¬ ((segsP t).length : Int) ≤ 12 by omega)]; simp
 | false =>
  by_cases h12 : (segsP t).length ≤ 12
  ·unfold Gt at hg
   rw [List.nil_append, List.nil_append] at hg
   rw [tw t 4 (by omega), show (5 : Int) - 4 = 1 from rfl, decide_eq_true h12, Bool.true_and, hg]; rfl
  ·rw [decide_eq_false h12]; simp
end Go.Proofs.Ytdphpmejjlgpnaa.Pt
