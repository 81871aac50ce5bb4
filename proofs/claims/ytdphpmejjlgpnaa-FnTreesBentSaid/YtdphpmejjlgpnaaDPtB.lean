import Derived.Test.YtdphpmejjlgpnaaDPtA
set_option linter.unusedVariables false
set_option linter.unusedSimpArgs false
set_option linter.unusedSectionVars false
namespace Go.Proofs.Ytdphpmejjlgpnaa.Pt
open Go.RowKit Go.Proofs.Ytdphpmejjlgpnaa.PFnTreesBent Go.Proofs.YtdphpmejjlgpnaaW.PrintWords Go.Proofs.YtdphpmejjlgpnaaW.PrintLast
def Few (t : S27) : Prop := (nodes t).length ≤ 50 ∧ ∀ p ∈ nodes t, p.2.length ≤ 10
def FewL (ts : List S27) : Prop := (nodesL ts).length ≤ 50 ∧ ∀ p ∈ nodesL ts, p.2.length ≤ 10
theorem Few.kids {n m ks} (h : Few ⟨n, m, ks⟩) : FewL ks := by
 obtain ⟨h1, h2⟩ := h
 rw [nodes] at h1 h2
 exact ⟨by simp only [List.length_cons] at h1; omega, fun p hp => h2 p (List.mem_cons_of_mem _ hp)⟩
theorem Few.mods {n m ks} (h : Few ⟨n, m, ks⟩) : m.length ≤ 10 := by
 obtain ⟨h1, h2⟩ := h
 rw [nodes] at h2
 exact h2 (n, m) List.mem_cons_self
theorem FewL.kid {ks : List S27} (h : FewL ks) {t : S27} (ht : t ∈ ks) : Few t :=
 ⟨Nat.le_trans (nodesL_len ht) h.1, fun p hp => h.2 p (nodesL_mem ht p hp)⟩
theorem FewL.head {t : S27} {ks : List S27} (h : FewL (t :: ks)) : Few t := h.kid List.mem_cons_self
theorem FewL.tail {t : S27} {ks : List S27} (h : FewL (t :: ks)) : FewL ks := by
 obtain ⟨h1, h2⟩ := h
 rw [nodesL] at h1 h2
 exact ⟨by rw [List.length_append] at h1; omega, fun p hp => h2 p (List.mem_append_right _ hp)⟩
theorem FewL.len {ks : List S27} (h : FewL ks) : ks.length ≤ 50 := Nat.le_trans (kids_le ks) h.1
section
variable {ns : List ByteArray} {ws : List Int} (hw : Bd ws)
include hw
theorem fl_bd : ∀ t : S27, Few t → -(1000000 * ((nodes t).length : Int)) ≤ fl (wp ns ws) t ∧ fl (wp ns ws) t ≤ 1000000 * ((nodes t).length : Int) ∧ -1000000 ≤ hi (wp ns ws) t ∧ hi (wp ns ws) t ≤ 1000000 * ((nodes t).length : Int) := by
 refine S27.ind fun n m ks ih hf => ?_
 have hm := hf.mods
 have hb := wp_bd (ns := ns) hw m
 have hk := hf.kids
 have h : -(1000000 * ((nodesL ks).length : Int)) ≤ flL (wp ns ws) ks ∧ flL (wp ns ws) ks ≤ 1000000 * ((nodesL ks).length : Int) ∧ 0 ≤ hiL (wp ns ws) ks ∧ hiL (wp ns ws) ks ≤ 1000000 * ((nodesL ks).length : Int) := by
  clear hf hb
  induction ks with
  | nil => simp [hiL, flL, nodesL]
  | cons t ts ih2 =>
   have h1 := ih t List.mem_cons_self hk.head
   have h2 := ih2 (fun u hu => ih u (List.mem_cons_of_mem _ hu)) hk.tail
   have h3 := nodes_pos t
   rw [hiL, flL, nodesL, List.length_append]
   omega
 rw [fl, hi, nodes, List.length_cons]
 omega
theorem flL_bd (ks : List S27) (hk : FewL ks) : -(1000000 * ((nodesL ks).length : Int)) ≤ flL (wp ns ws) ks ∧ flL (wp ns ws) ks ≤ 1000000 * ((nodesL ks).length : Int) ∧ 0 ≤ hiL (wp ns ws) ks ∧ hiL (wp ns ws) ks ≤ 1000000 * ((nodesL ks).length : Int) := by
 induction ks with
 | nil => simp [hiL, flL, nodesL]
 | cons t ts ih2 =>
  have h1 := fl_bd (ns := ns) hw t hk.head
  have h2 := ih2 hk.tail
  have h3 := nodes_pos t
  rw [hiL, flL, nodesL, List.length_append]
  omega
end
theorem spans_len (w : List ByteArray → Int) : ∀ t : S27, ∀ a, (spansP w a t).length = (nodes t).length := by
 refine S27.ind fun n m ks ih a => ?_
 rw [spansP, nodes, List.length_cons, List.length_cons]
 congr 1
 generalize a + 2 * w m = b
 induction ks with
 | nil => rfl
 | cons t ts ih2 => rw [spansL, nodesL, List.length_append, List.length_append, ih t List.mem_cons_self, ih2 (fun u hu => ih u (List.mem_cons_of_mem _ hu))]
def From (a : Int) (n : Nat) : Prop := -(2000000000 - 2000000 * (n : Int)) ≤ a ∧ a ≤ 2000000000 - 2000000 * (n : Int)
section
variable {ns : List ByteArray} {ws : List Int} (hw : Bd ws) (hn : ns.length ≤ 100000)
include hw hn
theorem spans_loop (e : Int) (ks : List S27) (hk : FewL ks) (he : From e (nodesL ks).length)
 (ih : ∀ t ∈ ks, ∀ a, Few t → From a (nodes t).length → Ev (fun k => impl_spans.f k t.f0 t.f1 t.f2 ns ws a) (spansP (wp ns ws) a t)) :
 ∀ (m i : Nat) (acc : List S38), i + m = ks.length → acc.length + (nodesL (ks.drop i)).length ≤ 1000 →
  Ev (fun k => impl_spans.l0 k ns ws e acc ks (ks.length : Int) (i : Int)) (acc ++ spansL (wp ns ws) e (ks.drop i))
 | 0, i, acc, hm, _ => by
  refine Ev.next ?_
  unfold impl_spans.l0
  refine Ev.neg (by omega) ?_
  rw [show ks.drop i = [] from List.drop_eq_nil_of_le (by omega)]
  simpa [spansL] using Ev.ok acc
 | m + 1, i, acc, hm, hl => by
  have hi : i < ks.length := by omega
  have hk10 := hk.len
  rw [drop_at hi z27] at hl
  rw [nodesL, List.length_append] at hl
  have hle := nodesL_len (getD_mem hi z27)
  have hf : From e (nodes (ks.getD i z27)).length := by unfold From at he ⊢; omega
  refine Ev.next ?_
  unfold impl_spans.l0
  refine Ev.pos (by omega) (Ev.pos (by omega) (Ev.pos (by omega) ?_))
  rw [rd27, wi (by omega)]
  refine Ev.bind (ih _ (getD_mem hi z27) e (hk.kid (getD_mem hi z27)) hf) ?_
  have h3 := spans_len (wp ns ws) (ks.getD i z27) e
  refine Ev.pos (by omega) ?_
  refine (spans_loop e ks hk he ih m (i + 1) (acc ++ spansP (wp ns ws) e (ks.getD i z27)) (by omega) (by rw [List.length_append]; omega)).eq ?_
  rw [drop_at hi z27, spansL, List.append_assoc]
theorem spans_ev : ∀ (t : S27) (a : Int), Few t → From a (nodes t).length → Ev (fun k => impl_spans.f k t.f0 t.f1 t.f2 ns ws a) (spansP (wp ns ws) a t) := by
 refine S27.ind fun n m ks ih a hf ha => ?_
 have hm := hf.mods
 have hb := wp_bd (ns := ns) hw m
 have hl := hf.kids.1
 rw [nodes, List.length_cons] at ha
 unfold From at ha
 refine Ev.next ?_
 unfold impl_spans.f
 refine Ev.bind (words_ev hw hn n m ks (by omega)) ?_
 rw [wid (n := 2 * wp ns ws m) (by omega) (by omega), wid (n := a + 2 * wp ns ws m) (by omega) (by omega)]
 refine (spans_loop hw hn (a + 2 * wp ns ws m) ks hf.kids (by unfold From; omega) ih ks.length 0 _ (by omega) (by simp only [List.length_cons, List.length_nil, List.drop_zero]; omega)).eq ?_
 rw [List.drop_zero, spansP]; rfl
theorem lay_loop (n0 : ByteArray) (m0 : List ByteArray) (e : Int) (ks : List S27) (hk : FewL ks) (he : From e (nodesL ks).length)
 (ih : ∀ t ∈ ks, ∀ a, Few t → From a (nodes t).length → Ev (fun k => spec_l23Lay.f k t.f0 t.f1 t.f2 ns ws a) (spansP (wp ns ws) a t)) :
 ∀ (m i : Nat) (acc : List S38), i + m = ks.length → acc.length + (nodesL (ks.drop i)).length ≤ 1000 →
  Ev (fun k => spec_l23Lay.l0 k ns ws e acc (i : Int) n0 m0 ks) (acc ++ spansL (wp ns ws) e (ks.drop i))
 | 0, i, acc, hm, _ => by
  refine Ev.next ?_
  unfold spec_l23Lay.l0
  refine Ev.neg (by omega) ?_
  rw [show ks.drop i = [] from List.drop_eq_nil_of_le (by omega)]
  simpa [spansL] using Ev.ok acc
 | m + 1, i, acc, hm, hl => by
  have hi : i < ks.length := by omega
  have hk10 := hk.len
  rw [drop_at hi z27] at hl
  rw [nodesL, List.length_append] at hl
  have hle := nodesL_len (getD_mem hi z27)
  have hf : From e (nodes (ks.getD i z27)).length := by unfold From at he ⊢; omega
  refine Ev.next ?_
  unfold spec_l23Lay.l0
  refine Ev.pos (by omega) (Ev.pos (by omega) ?_)
  rw [rd27, wi (by omega)]
  refine Ev.bind (ih _ (getD_mem hi z27) e (hk.kid (getD_mem hi z27)) hf) ?_
  have h3 := spans_len (wp ns ws) (ks.getD i z27) e
  refine Ev.pos (by omega) ?_
  refine (lay_loop n0 m0 e ks hk he ih m (i + 1) (acc ++ spansP (wp ns ws) e (ks.getD i z27)) (by omega) (by rw [List.length_append]; omega)).eq ?_
  rw [drop_at hi z27, spansL, List.append_assoc]
theorem lay_ev : ∀ (t : S27) (a : Int), Few t → From a (nodes t).length → Ev (fun k => spec_l23Lay.f k t.f0 t.f1 t.f2 ns ws a) (spansP (wp ns ws) a t) := by
 refine S27.ind fun n m ks ih a hf ha => ?_
 have hm := hf.mods
 have hb := wp_bd (ns := ns) hw m
 have hl := hf.kids.1
 rw [nodes, List.length_cons] at ha
 unfold From at ha
 refine Ev.next ?_
 unfold spec_l23Lay.f
 refine Ev.bind (swords_ev hw hn n m ks (by omega)) ?_
 rw [wid (n := 2 * wp ns ws m) (by omega) (by omega), wid (n := a + 2 * wp ns ws m) (by omega) (by omega)]
 refine (lay_loop hw hn n m (a + 2 * wp ns ws m) ks hf.kids (by unfold From; omega) ih ks.length 0 _ (by omega) (by simp only [List.length_cons, List.length_nil, List.drop_zero]; omega)).eq ?_
 rw [List.drop_zero, spansP]; rfl
theorem hi_loop (ks : List S27) (hk : FewL ks) (n0 : ByteArray) (m0 : List ByteArray) (hm0 : m0.length ≤ 10) (k0 : List S27)
 (ih : ∀ t ∈ ks, Few t → Ev (fun k => impl_highest.f k t.f0 t.f1 t.f2 ns ws) (hi (wp ns ws) t)) :
 ∀ (m i : Nat) (acc : Int), i + m = ks.length → 0 ≤ acc → acc ≤ 1000000000 → Ev (fun k => impl_highest.l0 k ns ws acc ks (ks.length : Int) (i : Int) n0 m0 k0) (wp ns ws m0 + max acc (hiL (wp ns ws) (ks.drop i)))
 | 0, i, acc, hm, h0, h1 => by
  have hb := wp_bd (ns := ns) hw m0
  refine Ev.next ?_
  unfold impl_highest.l0
  refine Ev.neg (by omega) ?_
  rw [show ks.drop i = [] from List.drop_eq_nil_of_le (by omega), hiL]
  refine Ev.bind (words_ev hw hn n0 m0 k0 (by omega)) ?_
  rw [wid (by omega) (by omega), Int.max_eq_left h0]
  exact Ev.ok _
 | m + 1, i, acc, hm, h0, h1 => by
  have hi : i < ks.length := by omega
  have hk10 := hk.len
  have hf := hk.kid (getD_mem hi z27)
  have hb1 := fl_bd (ns := ns) hw _ hf
  have hl2 := hf.1
  refine Ev.next ?_
  unfold impl_highest.l0
  refine Ev.pos (by omega) (Ev.pos (by omega) (Ev.pos (by omega) ?_))
  rw [rd27, wi (by omega)]
  refine Ev.bind (ih _ (getD_mem hi z27) hf) ?_
  have hmx : mx acc (Pt.hi (wp ns ws) (ks.getD i z27)) = max acc (Pt.hi (wp ns ws) (ks.getD i z27)) := by unfold mx; split <;> omega
  rw [hmx]
  refine (hi_loop ks hk n0 m0 hm0 k0 ih m (i + 1) _ (by omega) (by omega) (by omega)).eq ?_
  rw [drop_at hi z27, hiL]; omega
theorem hi_ev : ∀ t : S27, Few t → Ev (fun k => impl_highest.f k t.f0 t.f1 t.f2 ns ws) (hi (wp ns ws) t) := by
 refine S27.ind fun n m ks ih hf => ?_
 have hb2 := flL_bd (ns := ns) hw _ hf.kids
 refine Ev.next ?_
 unfold impl_highest.f
 refine (hi_loop hw hn ks hf.kids n m hf.mods ks ih ks.length 0 0 (by omega) (by omega) (by omega)).eq ?_
 rw [List.drop_zero, hi]; omega
theorem peak_loop (ks : List S27) (hk : FewL ks) (n0 : ByteArray) (m0 : List ByteArray) (hm0 : m0.length ≤ 10)
 (ih : ∀ t ∈ ks, Few t → Ev (fun k => spec_l23Peak.f k t.f0 t.f1 t.f2 ns ws) (hi (wp ns ws) t)) :
 ∀ (m i : Nat) (acc : Int), i + m = ks.length → 0 ≤ acc → acc ≤ 1000000000 → Ev (fun k => spec_l23Peak.l0 k ns ws acc (i : Int) n0 m0 ks) (wp ns ws m0 + max acc (hiL (wp ns ws) (ks.drop i)))
 | 0, i, acc, hm, h0, h1 => by
  have hb := wp_bd (ns := ns) hw m0
  refine Ev.next ?_
  unfold spec_l23Peak.l0
  refine Ev.neg (by omega) ?_
  rw [show ks.drop i = [] from List.drop_eq_nil_of_le (by omega), hiL]
  refine Ev.bind (swords_ev hw hn n0 m0 ks (by omega)) ?_
  rw [wid (by omega) (by omega), Int.max_eq_left h0]
  exact Ev.ok _
 | m + 1, i, acc, hm, h0, h1 => by
  have hi : i < ks.length := by omega
  have hk10 := hk.len
  have hf := hk.kid (getD_mem hi z27)
  have hb1 := fl_bd (ns := ns) hw _ hf
  have hl2 := hf.1
  refine Ev.next ?_
  unfold spec_l23Peak.l0
  refine Ev.pos (by omega) (Ev.pos (by omega) ?_)
  rw [rd27, wi (by omega)]
  refine Ev.bind (ih _ (getD_mem hi z27) hf) ?_
  refine Ev.ite (fun hc => ?_) (fun hc => ?_)
  ·refine (peak_loop ks hk n0 m0 hm0 ih m (i + 1) _ (by omega) (by omega) (by omega)).eq ?_
   rw [drop_at hi z27, hiL]; omega
  ·refine (peak_loop ks hk n0 m0 hm0 ih m (i + 1) _ (by omega) (by omega) (by omega)).eq ?_
   rw [drop_at hi z27, hiL]; omega
theorem peak_ev : ∀ t : S27, Few t → Ev (fun k => spec_l23Peak.f k t.f0 t.f1 t.f2 ns ws) (hi (wp ns ws) t) := by
 refine S27.ind fun n m ks ih hf => ?_
 have hb2 := flL_bd (ns := ns) hw _ hf.kids
 refine Ev.next ?_
 unfold spec_l23Peak.f
 refine (peak_loop hw hn ks hf.kids n m hf.mods ih ks.length 0 0 (by omega) (by omega) (by omega)).eq ?_
 rw [List.drop_zero, hi]; omega
theorem fl_loop (ks : List S27) (hk : FewL ks)
 (ih : ∀ t ∈ ks, Few t → Ev (fun k => impl_Flat.f k t.f0 t.f1 t.f2 ns ws) (fl (wp ns ws) t)) :
 ∀ (m i : Nat) (acc : Int), i + m = ks.length → -(1000000000 + 100000000 * (i : Int)) ≤ acc → acc ≤ 1000000000 + 100000000 * (i : Int) → Ev (fun k => impl_Flat.l0 k ns ws acc ks (ks.length : Int) (i : Int)) (acc + flL (wp ns ws) (ks.drop i))
 | 0, i, acc, hm, h0, h1 => by
  refine Ev.next ?_
  unfold impl_Flat.l0
  refine Ev.neg (by omega) ?_
  rw [show ks.drop i = [] from List.drop_eq_nil_of_le (by omega), flL, Int.add_zero]
  exact Ev.ok _
 | m + 1, i, acc, hm, h0, h1 => by
  have hi : i < ks.length := by omega
  have hk10 := hk.len
  have hf := hk.kid (getD_mem hi z27)
  have hb1 := fl_bd (ns := ns) hw _ hf
  have hl2 := hf.1
  refine Ev.next ?_
  unfold impl_Flat.l0
  refine Ev.pos (by omega) (Ev.pos (by omega) (Ev.pos (by omega) ?_))
  rw [rd27, wi (by omega)]
  refine Ev.bind (ih _ (getD_mem hi z27) hf) ?_
  rw [wid (by omega) (by omega)]
  refine (fl_loop ks hk ih m (i + 1) _ (by omega) (by omega) (by omega)).eq ?_
  rw [drop_at hi z27, flL]; omega
theorem fl_ev : ∀ t : S27, Few t → Ev (fun k => impl_Flat.f k t.f0 t.f1 t.f2 ns ws) (fl (wp ns ws) t) := by
 refine S27.ind fun n m ks ih hf => ?_
 have hm := hf.mods
 have hb := wp_bd (ns := ns) hw m
 refine Ev.next ?_
 unfold impl_Flat.f
 refine Ev.bind (words_ev hw hn n m ks (by omega)) ?_
 refine (fl_loop hw hn ks hf.kids ih ks.length 0 _ (by omega) (by omega) (by omega)).eq ?_
 rw [List.drop_zero, fl]
theorem sfl_loop (n0 : ByteArray) (m0 : List ByteArray) (ks : List S27) (hk : FewL ks)
 (ih : ∀ t ∈ ks, Few t → Ev (fun k => spec_Flat.f k t.f0 t.f1 t.f2 ns ws) (fl (wp ns ws) t)) :
 ∀ (m i : Nat) (acc : Int), i + m = ks.length → -(1000000000 + 100000000 * (i : Int)) ≤ acc → acc ≤ 1000000000 + 100000000 * (i : Int) → Ev (fun k => spec_Flat.l0 k ns ws acc (i : Int) n0 m0 ks) (acc + flL (wp ns ws) (ks.drop i))
 | 0, i, acc, hm, h0, h1 => by
  refine Ev.next ?_
  unfold spec_Flat.l0
  refine Ev.neg (by omega) ?_
  rw [show ks.drop i = [] from List.drop_eq_nil_of_le (by omega), flL, Int.add_zero]
  exact Ev.ok _
 | m + 1, i, acc, hm, h0, h1 => by
  have hi : i < ks.length := by omega
  have hk10 := hk.len
  have hf := hk.kid (getD_mem hi z27)
  have hb1 := fl_bd (ns := ns) hw _ hf
  have hl2 := hf.1
  refine Ev.next ?_
  unfold spec_Flat.l0
  refine Ev.pos (by omega) (Ev.pos (by omega) ?_)
  rw [rd27, wi (by omega)]
  refine Ev.bind (ih _ (getD_mem hi z27) hf) ?_
  rw [wid (by omega) (by omega)]
  refine (sfl_loop n0 m0 ks hk ih m (i + 1) _ (by omega) (by omega) (by omega)).eq ?_
  rw [drop_at hi z27, flL]; omega
theorem sfl_ev : ∀ t : S27, Few t → Ev (fun k => spec_Flat.f k t.f0 t.f1 t.f2 ns ws) (fl (wp ns ws) t) := by
 refine S27.ind fun n m ks ih hf => ?_
 have hm := hf.mods
 have hb := wp_bd (ns := ns) hw m
 refine Ev.next ?_
 unfold spec_Flat.f
 refine Ev.bind (swords_ev hw hn n m ks (by omega)) ?_
 refine (sfl_loop hw hn n m ks hf.kids ih ks.length 0 _ (by omega) (by omega) (by omega)).eq ?_
 rw [List.drop_zero, fl]
end
end Go.Proofs.Ytdphpmejjlgpnaa.Pt
