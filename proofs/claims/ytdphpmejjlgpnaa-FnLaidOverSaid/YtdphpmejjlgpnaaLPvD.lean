import Derived.Test.YtdphpmejjlgpnaaLPvC
import Derived.Test.YtdphpmejjlgpnaaL10
namespace Go.Proofs.Ytdphpmejjlgpnaa.Pv
open Go.RowKit Go.Proofs.Ytdphpmejjlgpnaa.PFnLaidOver Go.Proofs.YtdphpmejjlgpnaaW.PrintWords Go.Proofs.YtdphpmejjlgpnaaW.PrintLast
theorem lspans_ev (l : List S38) (hl : l.length ≤ 1000) : Ev (fun k => laws_spans.f k l) (l.map (·.f0)) := by
  have h : ∀ (m i : Nat) (acc : List ByteArray), i + m = l.length → acc.length = i → Ev (fun k => laws_spans.l0 k l acc (i : Int)) (acc ++ (l.drop i).map (·.f0)) := by
    intro m
    induction m with
    | zero =>
      intro i acc he ha
      refine Ev.next ?_
      unfold laws_spans.l0
      rw [show l.drop i = [] from List.drop_eq_nil_of_le (by omega)]
      refine Ev.neg (by omega) ((Ev.ok _).eq (by simp))
    | succ m ih =>
      intro i acc he ha
      have hi : i < l.length := by omega
      refine Ev.next ?_
      unfold laws_spans.l0
      refine Ev.pos (by omega) (Ev.pos (by omega) (Ev.pos (by omega) ?_))
      rw [rd38, wi (by omega), drop_at hi z38]
      refine (ih (i + 1) (acc ++ [(l.getD i z38).f0]) (by omega) (by simp [ha])).eq (by simp)
  exact h l.length 0 [] (by omega) rfl
theorem sameTexts_ev (l : List ByteArray) (hl : l.length ≤ 1000) : Ev (fun k => laws_sameTexts.f k l l) true := by
  have h : ∀ (m i : Nat), i + m = l.length → Ev (fun k => laws_sameTexts.l0 k l l (i : Int)) true := by
    intro m
    induction m with
    | zero =>
      intro i he
      refine Ev.next ?_
      unfold laws_sameTexts.l0
      exact Ev.neg (by omega) (Ev.ok _)
    | succ m ih =>
      intro i he
      refine Ev.next ?_
      unfold laws_sameTexts.l0
      refine Ev.pos (by omega) (Ev.pos (by omega) (Ev.pos (by omega) (Ev.pos rfl ?_)))
      rw [wi (by omega)]
      exact ih (i + 1) (by omega)
  unfold laws_sameTexts.f
  exact Ev.pos rfl (h l.length 0 (by omega))
def lastTo : List S38 → Int → Int
  | [], a => a
  | s :: l, a => lastTo l (if s.f2 > a then s.f2 else a)
theorem lastTo_eq (M : Int) : ∀ (l : List S38) (a : Int), (∀ s ∈ l, s.f2 ≤ M) → a ≤ M → (a = M ∨ ∃ s ∈ l, s.f2 = M) → lastTo l a = M
  | [], a, _, _, h => by
    rcases h with h | ⟨s, hs, _⟩
    · exact h
    · cases hs
  | s :: l, a, h1, h2, h3 => by
    have hs := h1 s List.mem_cons_self
    rw [lastTo]
    refine lastTo_eq M l _ (fun u hu => h1 u (List.mem_cons_of_mem _ hu)) (by split <;> omega) ?_
    rcases h3 with h3 | ⟨u, hu, he⟩
    · left; split <;> omega
    · rcases List.mem_cons.1 hu with rfl | hu
      · left; split <;> omega
      · exact .inr ⟨u, hu, he⟩
theorem names_at {l : List S38} {i : Nat} (hi : i < l.length) : (l.getD i z38).f0 = (l.map (·.f0)).getD i ByteArray.empty := by
  rw [List.getD_eq_getElem?_getD, List.getD_eq_getElem?_getD, List.getElem?_map, List.getElem?_eq_getElem hi]; rfl
theorem law_ev {ns : List ByteArray} {ws : List Int} (hw : Small ws) (hn : ns.length = ws.length) (t : S27) (hg : Good t) :
    Ev (fun k => laws_FnLaidOver.j0 k ns ws (spansP (wp ns ws) 64 t) false t.f0 t.f1 t.f2) true := by
  have hw0 := fun m => (wp_bd (ns := ns) hw m).1
  have hwl := hw.1
  have hl := hg.few.1
  have hsl := spans_len (ns := ns) hw 0 t 64
  have hb := fl_bd (ns := ns) hw t hg.few
  have hin := span_in (w := wp ns ws) hw0 t 64
  have hA := apart (w := wp ns ws) hw0 t 64
  have hnm := span_names (w := wp ns ws) t 64
  have hnd := nodup_of hg.names
  have hp : ∀ {b : Int → Bool}, Ev (fun k => impl_Peak.f k t.f0 t.f1 t.f2 ns ws) (hi (wp ns ws) t) := by
    intro _
    unfold impl_Peak.f
    exact Ev.bind (segOk_ev t hg) (Ev.pos rfl (Ev.bind (hi_ev hw (by omega) t hg.few) (Ev.ok _)))
  have hmax : lastTo (spansP (wp ns ws) 64 t) 0 = 64 + 2 * hi (wp ns ws) t := by
    refine lastTo_eq _ _ _ (fun s hs => (hin s hs).2.2.1) (by omega) (.inr ?_)
    exact span_max hw0 t 64
  have ht := together_ev (w := wp ns ws) (l := spansP (wp ns ws) 64 t) (by omega) (by rw [hnm]; exact hnd) t 64 hg.few (fun _ h => h)
  generalize spansP (wp ns ws) 64 t = l at *
  have h1 : ∀ (acc : Int) (i : Nat), i < l.length → Ev (fun k => laws_FnLaidOver.l0 k ns ws l acc ((i + 1 : Nat) : Int) t.f0 t.f1 t.f2) true → ∀ (m j : Nat), j + m = i → Ev (fun k => laws_FnLaidOver.l1 k ns ws l acc (i : Int) (j : Int) t.f0 t.f1 t.f2) true := by
    intro acc i hi hnext m
    induction m with
    | zero =>
      intro j he
      refine Ev.next ?_
      unfold laws_FnLaidOver.l1
      rw [wi (i := i) (by omega)]
      exact Ev.neg (by omega) hnext
    | succ m ih =>
      intro j he
      refine Ev.next ?_
      unfold laws_FnLaidOver.l1
      refine Ev.pos (by omega) (Ev.pos (by omega) (Ev.pos (by omega) (Ev.pos (by omega) (Ev.pos (by omega) ?_))))
      rw [rd38, rd38, wi (by omega), names_at hi, names_at (show j < l.length by omega), hnm]
      refine Ev.bind (above_ev t hg.few hnd hA.2.1 i j (by omega) (by omega)) ?_
      refine Ev.ite (fun hc => ?_) (fun _ => ih (j + 1) (by omega))
      have hc' := of_decide_eq_true hc
      have h3 := hA.2.2 j i (by omega) hc'
      exact Ev.neg (by omega) (ih (j + 1) (by omega))
  have h0 : ∀ (m i : Nat) (acc : Int), i + m = l.length → lastTo (l.drop i) acc = 64 + 2 * hi (wp ns ws) t → Ev (fun k => laws_FnLaidOver.l0 k ns ws l acc (i : Int) t.f0 t.f1 t.f2) true := by
    intro m
    induction m with
    | zero =>
      intro i acc he ha
      rw [show l.drop i = [] from List.drop_eq_nil_of_le (by omega), lastTo] at ha
      refine Ev.next ?_
      unfold laws_FnLaidOver.l0
      refine Ev.neg (by omega) (Ev.bind (hp (b := fun _ => true)) ?_)
      rw [wid (n := 2 * hi (wp ns ws) t) (by omega) (by omega), wid (n := 64 + 2 * hi (wp ns ws) t) (by omega) (by omega)]
      refine Ev.pos ha (Ev.bind (hp (b := fun _ => true)) (Ev.bind (fl_ev hw (by omega) t hg.few) (Ev.pos (by omega) ?_)))
      exact Ev.bind ht (Ev.ok _)
    | succ m ih =>
      intro i acc he ha
      have hi : i < l.length := by omega
      rw [drop_at hi z38, lastTo] at ha
      have h5 := hin _ (getD_mem hi z38)
      have h2 : ∀ acc : Int, lastTo (l.drop (i + 1)) acc = 64 + 2 * Pv.hi (wp ns ws) t → Ev (fun k => laws_FnLaidOver.j2 k ns ws l acc (i : Int) t.f0 t.f1 t.f2) true := by
        intro acc ha
        refine Ev.next ?_
        simp only [laws_FnLaidOver.j2]
        refine Ev.pos (by omega) (Ev.pos (by omega) ?_)
        rw [rd38]
        refine Ev.pos (by rw [Int.tmod_eq_emod_of_nonneg (by omega)]; omega) ?_
        rw [decide_eq_false (show ¬ ((l.getD i z38).f1 > (l.getD i z38).f2) by omega)]
        refine Ev.next ?_
        simp only [laws_FnLaidOver.j3]
        exact Ev.neg (by decide) (h1 acc i hi (ih (i + 1) acc (by omega) ha) i 0 (Nat.zero_add _))
      refine Ev.next ?_
      unfold laws_FnLaidOver.l0
      refine Ev.pos (by omega) (Ev.pos (by omega) ?_)
      rw [rd38]
      refine Ev.ite (fun hc => ?_) (fun hc => ?_)
      · rw [if_pos hc] at ha; exact h2 _ ha
      · rw [if_neg hc] at ha; exact h2 _ ha
  refine Ev.next ?_
  simp only [laws_FnLaidOver.j0]
  exact Ev.neg (by decide) (h0 l.length 0 0 (Nat.zero_add _) hmax)
/-- The law, once a tree that is right has been drawn. -/
theorem law_of {l0 : List Int} {n : ByteArray} {m : List ByteArray} {ks : List S27} {ns : List ByteArray} {ws : List Int} (hd : Ev (fun k => spec_DrawTree.f k l0) (n, m, ks, ns, ws)) (hb : l0.length ≤ 1048576)
    (hw : Small ws) (hn : ns.length = ws.length) (hg : Good ⟨n, m, ks⟩) : ∃ k, laws_FnLaidOver.f k l0 = some true := by
  have hsl := spans_len (ns := ns) hw 0 ⟨n, m, ks⟩ 64
  have hl := hg.few.1
  have hp := nodes_pos ⟨n, m, ks⟩
  refine Ev.get (F := fun k => laws_FnLaidOver.f k l0) ?_
  unfold laws_FnLaidOver.f
  refine Ev.bind (a := false) (Ev.const ?_) (Ev.neg (by decide) (Ev.bind hd (Ev.bind (layout_ev hw hn ⟨n, m, ks⟩ hg) (Ev.pos rfl ?_))))
  · simp only [laws_big.f]; congr 1; simp only [decide_eq_false_iff_not]; omega
  have hs := segs_ev ⟨n, m, ks⟩ (by omega)
  have h2 := segsP_len ⟨n, m, ks⟩
  refine Ev.bind (lspans_ev _ (by show (spansP (wp ns ws) 64 ⟨n, m, ks⟩).length ≤ 1000; omega)) (Ev.bind hs ?_)
  rw [span_names]
  refine Ev.bind (sameTexts_ev _ (by omega)) (Ev.pos rfl (Ev.pos (by show (0 : Int) < ((spansP (wp ns ws) 64 ⟨n, m, ks⟩).length : Int); omega) ?_))
  have := law_ev hw hn ⟨n, m, ks⟩ hg
  refine this
end Go.Proofs.Ytdphpmejjlgpnaa.Pv
