import Derived.Test.YtdphpmejjlgpnaaLPvA
namespace Go.Proofs.Ytdphpmejjlgpnaa.Pv
open Go.RowKit Go.Proofs.Ytdphpmejjlgpnaa.PFnLaidOver Go.Proofs.YtdphpmejjlgpnaaW.PrintWords Go.Proofs.YtdphpmejjlgpnaaW.PrintLast
/-- What the trees here keep to: few nodes, few mods a node. -/
def Few (t : S27) : Prop := (nodes t).length ≤ 10 ∧ ∀ p ∈ nodes t, p.2.length ≤ 2
def FewL (ts : List S27) : Prop := (nodesL ts).length ≤ 10 ∧ ∀ p ∈ nodesL ts, p.2.length ≤ 2
theorem Few.kids {n m ks} (h : Few ⟨n, m, ks⟩) : FewL ks := by
  obtain ⟨h1, h2⟩ := h
  rw [nodes] at h1 h2
  exact ⟨by simp at h1; omega, fun p hp => h2 p (List.mem_cons_of_mem _ hp)⟩
theorem Few.mods {n m ks} (h : Few ⟨n, m, ks⟩) : m.length ≤ 2 := by
  obtain ⟨h1, h2⟩ := h
  rw [nodes] at h2
  exact h2 (n, m) List.mem_cons_self
theorem FewL.kid {ks : List S27} (h : FewL ks) {t : S27} (ht : t ∈ ks) : Few t :=
  ⟨Nat.le_trans (nodesL_len ht) h.1, fun p hp => h.2 p (nodesL_mem ht p hp)⟩
theorem FewL.head {t : S27} {ks : List S27} (h : FewL (t :: ks)) : Few t := h.kid List.mem_cons_self
theorem FewL.tail {t : S27} {ks : List S27} (h : FewL (t :: ks)) : FewL ks := by
  obtain ⟨h1, h2⟩ := h
  rw [nodesL] at h1 h2
  exact ⟨by simp at h1; omega, fun p hp => h2 p (List.mem_append_right _ hp)⟩
theorem FewL.len {ks : List S27} (h : FewL ks) : ks.length ≤ 10 := Nat.le_trans (kids_le ks) h.1

section
variable {ns : List ByteArray} {ws : List Int} (hw : Small ws)
include hw
theorem fl_bd : ∀ t : S27, Few t → 0 ≤ hi (wp ns ws) t ∧ hi (wp ns ws) t ≤ fl (wp ns ws) t ∧ fl (wp ns ws) t ≤ 600 * (nodes t).length := by
  refine S27.ind fun n m ks ih hf => ?_
  have hm := hf.mods
  have hk := hf.kids
  have hb := wp_bd (ns := ns) hw m
  rw [hi, fl, nodes, List.length_cons]
  have : 0 ≤ hiL (wp ns ws) ks ∧ hiL (wp ns ws) ks ≤ flL (wp ns ws) ks ∧ flL (wp ns ws) ks ≤ 600 * (nodesL ks).length := by
    clear hf hm hb
    induction ks with
    | nil => simp [hiL, flL, nodesL]
    | cons t ts ih2 =>
      have h1 := ih t List.mem_cons_self hk.head
      have h2 := ih2 (fun u hu => ih u (List.mem_cons_of_mem _ hu)) hk.tail
      rw [hiL, flL, nodesL, List.length_append]
      omega
  omega
theorem flL_bd (ks : List S27) (hk : FewL ks) : 0 ≤ hiL (wp ns ws) ks ∧ hiL (wp ns ws) ks ≤ flL (wp ns ws) ks ∧ flL (wp ns ws) ks ≤ 600 * (nodesL ks).length := by
  induction ks with
  | nil => simp [hiL, flL, nodesL]
  | cons t ts ih2 =>
    have h1 := fl_bd (ns := ns) hw t hk.head
    have h2 := ih2 hk.tail
    rw [hiL, flL, nodesL, List.length_append]
    omega
theorem spans_len (a : Int) : ∀ t : S27, ∀ a, (spansP (wp ns ws) a t).length = (nodes t).length := by
  have _ := hw
  refine S27.ind fun n m ks ih a => ?_
  rw [spansP, nodes, List.length_cons, List.length_cons]
  congr 1
  generalize a + 2 * wp ns ws m = b
  induction ks with
  | nil => rfl
  | cons t ts ih2 => rw [spansL, nodesL, List.length_append, List.length_append, ih t List.mem_cons_self, ih2 (fun u hu => ih u (List.mem_cons_of_mem _ hu))]
theorem spans_loop (hn : ns.length ≤ 100000) (e : Int) (h0 : 0 ≤ e) (ks : List S27) (hk : FewL ks) (he : e + 2 * flL (wp ns ws) ks ≤ 100000)
    (ih : ∀ t ∈ ks, ∀ a, Few t → 0 ≤ a → a + 2 * fl (wp ns ws) t ≤ 100000 → Ev (fun k => impl_spans.f k t.f0 t.f1 t.f2 ns ws a) (spansP (wp ns ws) a t)) :
    ∀ (m i : Nat) (acc : List S38), i + m = ks.length → FewL (ks.drop i) → acc.length + (nodesL (ks.drop i)).length ≤ 1000 → e + 2 * flL (wp ns ws) (ks.drop i) ≤ 100000 →
      Ev (fun k => impl_spans.l0 k ns ws e acc ks (ks.length : Int) (i : Int)) (acc ++ spansL (wp ns ws) e (ks.drop i))
  | 0, i, acc, hm, _, _, _ => by
    refine Ev.next ?_
    unfold impl_spans.l0
    refine Ev.neg (by omega) ?_
    rw [show ks.drop i = [] from List.drop_eq_nil_of_le (by omega)]
    simpa [spansL] using Ev.ok acc
  | m + 1, i, acc, hm, hf, hl, hee => by
    have hi : i < ks.length := by omega
    have hk10 := hk.len
    rw [drop_at hi z27] at hf hl hee
    rw [nodesL, List.length_append] at hl
    have hb1 := fl_bd (ns := ns) hw _ hf.head
    have hb2 := flL_bd (ns := ns) hw _ hf.tail
    rw [flL] at hee
    refine Ev.next ?_
    unfold impl_spans.l0
    refine Ev.pos (by omega) (Ev.pos (by omega) (Ev.pos (by omega) ?_))
    rw [rd27, wi (by omega)]
    refine Ev.bind (ih _ (getD_mem hi z27) e hf.head h0 (by omega)) ?_
    have h3 := spans_len (ns := ns) hw 0 (ks.getD i z27) e
    refine Ev.pos (by omega) ?_
    refine (spans_loop hn e h0 ks hk he ih m (i + 1) (acc ++ spansP (wp ns ws) e (ks.getD i z27)) (by omega) hf.tail (by rw [List.length_append]; omega) (by omega)).eq ?_
    rw [drop_at hi z27, spansL, List.append_assoc]
theorem spans_ev (hn : ns.length ≤ 100000) : ∀ (t : S27) (a : Int), Few t → 0 ≤ a → a + 2 * fl (wp ns ws) t ≤ 100000 → Ev (fun k => impl_spans.f k t.f0 t.f1 t.f2 ns ws a) (spansP (wp ns ws) a t) := by
  refine S27.ind fun n m ks ih a hf h0 ha => ?_
  have hm := hf.mods
  have hb := wp_bd (ns := ns) hw m
  have hb2 := flL_bd (ns := ns) hw _ hf.kids
  have hl := hf.kids.1
  rw [fl] at ha
  refine Ev.next ?_
  unfold impl_spans.f
  refine Ev.bind (words_ev hw hn n m ks (by omega)) ?_
  rw [wid (n := 2 * wp ns ws m) (by omega) (by omega), wid (n := a + 2 * wp ns ws m) (by omega) (by omega)]
  refine (spans_loop hw hn (a + 2 * wp ns ws m) (by omega) ks hf.kids (by omega) ih ks.length 0 _ (by omega) hf.kids (by simp only [List.length_cons, List.length_nil, List.drop_zero]; omega) (by simp only [List.drop_zero]; omega)).eq ?_
  rw [List.drop_zero, spansP]; rfl
theorem hi_loop (hn : ns.length ≤ 100000) (ks : List S27) (hk : FewL ks) (n0 : ByteArray) (m0 : List ByteArray) (hm0 : m0.length ≤ 2) (k0 : List S27)
    (ih : ∀ t ∈ ks, Few t → Ev (fun k => impl_highest.f k t.f0 t.f1 t.f2 ns ws) (hi (wp ns ws) t)) :
    ∀ (m i : Nat) (acc : Int), i + m = ks.length → FewL (ks.drop i) → 0 ≤ acc → acc ≤ 1000000 → Ev (fun k => impl_highest.l0 k ns ws acc ks (ks.length : Int) (i : Int) n0 m0 k0) (wp ns ws m0 + max acc (hiL (wp ns ws) (ks.drop i)))
  | 0, i, acc, hm, _, h0, h1 => by
    have hb := wp_bd (ns := ns) hw m0
    refine Ev.next ?_
    unfold impl_highest.l0
    refine Ev.neg (by omega) ?_
    rw [show ks.drop i = [] from List.drop_eq_nil_of_le (by omega), hiL]
    refine Ev.bind (words_ev hw hn n0 m0 k0 (by omega)) ?_
    rw [wid (by omega) (by omega), Int.max_eq_left h0]
    exact Ev.ok _
  | m + 1, i, acc, hm, hf, h0, h1 => by
    have hi : i < ks.length := by omega
    have hk10 := hk.len
    rw [drop_at hi z27] at hf ⊢
    have hb1 := fl_bd (ns := ns) hw _ hf.head
    have hb2 := flL_bd (ns := ns) hw _ hf.tail
    have hl := hf.1
    have hl2 := hf.head.1
    refine Ev.next ?_
    unfold impl_highest.l0
    refine Ev.pos (by omega) (Ev.pos (by omega) (Ev.pos (by omega) ?_))
    rw [rd27, wi (by omega)]
    refine Ev.bind (ih _ (getD_mem hi z27) hf.head) ?_
    have hmx : mx acc (Pv.hi (wp ns ws) (ks.getD i z27)) = max acc (Pv.hi (wp ns ws) (ks.getD i z27)) := by unfold mx; split <;> omega
    rw [hmx]
    refine (hi_loop hn ks hk n0 m0 hm0 k0 ih m (i + 1) _ (by omega) hf.tail (by omega) (by omega)).eq ?_
    rw [hiL]; omega
theorem hi_ev (hn : ns.length ≤ 100000) : ∀ t : S27, Few t → Ev (fun k => impl_highest.f k t.f0 t.f1 t.f2 ns ws) (hi (wp ns ws) t) := by
  refine S27.ind fun n m ks ih hf => ?_
  have hb2 := flL_bd (ns := ns) hw _ hf.kids
  refine Ev.next ?_
  unfold impl_highest.f
  refine (hi_loop hw hn ks hf.kids n m hf.mods ks ih ks.length 0 0 (by omega) hf.kids (by omega) (by omega)).eq ?_
  rw [List.drop_zero, hi]; omega
theorem fl_loop (hn : ns.length ≤ 100000) (ks : List S27) (hk : FewL ks)
    (ih : ∀ t ∈ ks, Few t → Ev (fun k => impl_Flat.f k t.f0 t.f1 t.f2 ns ws) (fl (wp ns ws) t)) :
    ∀ (m i : Nat) (acc : Int), i + m = ks.length → FewL (ks.drop i) → 0 ≤ acc → acc + flL (wp ns ws) (ks.drop i) ≤ 1000000 → Ev (fun k => impl_Flat.l0 k ns ws acc ks (ks.length : Int) (i : Int)) (acc + flL (wp ns ws) (ks.drop i))
  | 0, i, acc, hm, _, h0, h1 => by
    refine Ev.next ?_
    unfold impl_Flat.l0
    refine Ev.neg (by omega) ?_
    rw [show ks.drop i = [] from List.drop_eq_nil_of_le (by omega), flL, Int.add_zero]
    exact Ev.ok _
  | m + 1, i, acc, hm, hf, h0, h1 => by
    have hi : i < ks.length := by omega
    have hk10 := hk.len
    rw [drop_at hi z27] at hf h1 ⊢
    have hb1 := fl_bd (ns := ns) hw _ hf.head
    have hb2 := flL_bd (ns := ns) hw _ hf.tail
    rw [flL] at h1 ⊢
    refine Ev.next ?_
    unfold impl_Flat.l0
    refine Ev.pos (by omega) (Ev.pos (by omega) (Ev.pos (by omega) ?_))
    rw [rd27, wi (by omega)]
    refine Ev.bind (ih _ (getD_mem hi z27) hf.head) ?_
    rw [wid (by omega) (by omega)]
    refine (fl_loop hn ks hk ih m (i + 1) _ (by omega) hf.tail (by omega) (by omega)).eq (by omega)
theorem fl_ev (hn : ns.length ≤ 100000) : ∀ t : S27, Few t → Ev (fun k => impl_Flat.f k t.f0 t.f1 t.f2 ns ws) (fl (wp ns ws) t) := by
  refine S27.ind fun n m ks ih hf => ?_
  have hm := hf.mods
  have hb := wp_bd (ns := ns) hw m
  have hb2 := flL_bd (ns := ns) hw _ hf.kids
  have hl := hf.kids.1
  refine Ev.next ?_
  unfold impl_Flat.f
  refine Ev.bind (words_ev hw hn n m ks (by omega)) ?_
  refine (fl_loop hw hn ks hf.kids ih ks.length 0 _ (by omega) hf.kids (by omega) (by simp only [List.drop_zero]; omega)).eq ?_
  rw [List.drop_zero, fl]
end

/-! ### a tree that is right -/
def Name (x : ByteArray) : Prop := Ev (fun k => impl_isName.f k x) true
mutual
def deep : S27 → Int
  | ⟨_, _, ks⟩ => 1 + deepL ks
def deepL : List S27 → Int
  | [] => 0
  | t :: ts => max (deep t) (deepL ts)
end
theorem deepL_ge (ks : List S27) : 0 ≤ deepL ks := by
  induction ks with
  | nil => exact Int.le_refl _
  | cons t ts ih => rw [deepL]; omega
theorem deep_mem {t : S27} {ks : List S27} (h : t ∈ ks) : deep t ≤ deepL ks := by
  induction ks with
  | nil => cases h
  | cons u us ih =>
    rw [deepL]
    rcases List.mem_cons.1 h with rfl | h
    · omega
    · have := ih h; omega
def Named (ps : List (ByteArray × List ByteArray)) : Prop := ∀ p ∈ ps, Name p.1 ∧ ∀ x ∈ p.2, Name x
theorem tree_kids (d : Int) (hd : d ≤ 1000) (h1 : -1000 ≤ d) (ks : List S27) (hk : ks.length ≤ 1000)
    (ih : ∀ t ∈ ks, Ev (fun k => impl_treeOk.f k t.f0 t.f1 t.f2 (d - 1)) true) :
    ∀ (m i : Nat), i + m = ks.length → Ev (fun k => impl_treeOk.l1 k d ks (ks.length : Int) (i : Int)) true
  | 0, i, he => by
    refine Ev.next ?_
    unfold impl_treeOk.l1
    exact Ev.neg (by omega) (Ev.ok _)
  | m + 1, i, he => by
    have hi : i < ks.length := by omega
    refine Ev.next ?_
    unfold impl_treeOk.l1
    refine Ev.pos (by omega) (Ev.pos (by omega) (Ev.pos (by omega) ?_))
    rw [rd27, wi (by omega), wid (n := d - 1) (by omega) (by omega)]
    exact Ev.bind (ih _ (getD_mem hi z27)) (Ev.pos rfl (tree_kids d hd h1 ks hk ih m (i + 1) (by omega)))
theorem tree_mods (d : Int) (hd : d ≤ 1000) (h1 : -1000 ≤ d) (n0 : ByteArray) (m0 : List ByteArray) (ks : List S27) (hk : ks.length ≤ 1000) (ms : List ByteArray) (hms : ms.length ≤ 1000) (hn : ∀ x ∈ ms, Name x)
    (ih : ∀ t ∈ ks, Ev (fun k => impl_treeOk.f k t.f0 t.f1 t.f2 (d - 1)) true) :
    ∀ (m i : Nat), i + m = ms.length → Ev (fun k => impl_treeOk.l0 k d ms (ms.length : Int) (i : Int) n0 m0 ks) true
  | 0, i, he => by
    refine Ev.next ?_
    unfold impl_treeOk.l0
    exact Ev.neg (by omega) (tree_kids d hd h1 ks hk ih ks.length 0 (by omega))
  | m + 1, i, he => by
    have hi : i < ms.length := by omega
    refine Ev.next ?_
    unfold impl_treeOk.l0
    refine Ev.pos (by omega) (Ev.pos (by omega) (Ev.pos (by omega) ?_))
    rw [rdB, wi (by omega)]
    exact Ev.bind (hn _ (getD_mem hi _)) (Ev.pos rfl (tree_mods d hd h1 n0 m0 ks hk ms hms hn ih m (i + 1) (by omega)))
theorem tree_ev : ∀ (t : S27) (d : Int), d ≤ 100 → Few t → Named (nodes t) → deep t ≤ d → Ev (fun k => impl_treeOk.f k t.f0 t.f1 t.f2 d) true := by
  refine S27.ind fun n m ks ih d hd hf hn hdd => ?_
  have hm := hf.mods
  have hk := hf.kids
  have hl := hk.len
  rw [nodes] at hn
  rw [deep] at hdd
  have hg := deepL_ge ks
  obtain ⟨n1, n2⟩ := hn (n, m) List.mem_cons_self
  refine Ev.next ?_
  unfold impl_treeOk.f
  refine Ev.neg (by omega) (Ev.bind n1 (Ev.pos rfl (Ev.neg (by show ¬ ((m.length : Int) > 6); omega) ?_)))
  refine Ev.next ?_
  unfold impl_treeOk.j0
  refine Ev.neg (by simp only [decide_eq_true_eq]; show ¬ ((ks.length : Int) > 12); omega) ?_
  exact tree_mods d (by omega) (by omega) n m ks (by omega) m (by omega) n2 (fun t ht => ih t ht (d - 1) (by omega) (hk.kid ht) (fun p hp => hn p (List.mem_cons_of_mem _ (nodesL_mem ht p hp))) (by have := deep_mem ht; omega)) m.length 0 (by omega)
/-- What is drawn. -/
structure Good (t : S27) : Prop where
  few : Few t
  named : Named (nodes t)
  deep : deep t ≤ 4
  names : ((segsP t).map fun s => s.data.toList).Nodup
  mods : ((modsP t).map fun s => s.data.toList).Nodup
theorem mods_len {ps : List (ByteArray × List ByteArray)} (h : ∀ p ∈ ps, p.2.length ≤ 2) : (ps.flatMap (·.2)).length ≤ 2 * ps.length := by
  induction ps with
  | nil => simp
  | cons p ps ih => have h1 := h p List.mem_cons_self; have h2 := ih (fun q hq => h q (List.mem_cons_of_mem _ hq)); simp only [List.flatMap_cons, List.length_append, List.length_cons]; omega
theorem segOk_ev (t : S27) (h : Good t) : Ev (fun k => impl_SegOk.f k t.f0 t.f1 t.f2) true := by
  have h1 := h.few.1
  have h2 := segsP_len t
  have h3 : (modsP t).length ≤ 2 * (nodes t).length := mods_len h.few.2
  unfold impl_SegOk.f
  refine Ev.bind (tree_ev t 4 (by omega) h.few h.named h.deep) (Ev.pos rfl ?_)
  refine Ev.bind (segs_ev t (by omega)) (Ev.pos (by omega) ?_)
  refine Ev.bind (segs_ev t (by omega)) (Ev.bind (a := true) (Ev.const ?_) (Ev.pos rfl ?_))
  · unfold impl_unlike.f
    rw [if_pos (by omega), decide_eq_true h.names]
  refine Ev.bind (mods_ev t (by omega)) (Ev.bind (a := true) (Ev.const ?_) (Ev.ok _))
  unfold impl_unlike.f
  rw [if_pos (by omega), decide_eq_true h.mods]
end Go.Proofs.Ytdphpmejjlgpnaa.Pv
