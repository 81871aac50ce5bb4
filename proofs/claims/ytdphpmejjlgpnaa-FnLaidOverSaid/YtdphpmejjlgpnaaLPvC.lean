import Derived.Test.YtdphpmejjlgpnaaLPvB
import Derived.Test.YtdphpmejjlgpnaaL6
namespace Go.Proofs.Ytdphpmejjlgpnaa.Pv
set_option linter.unusedSectionVars false
open Go.RowKit Go.Proofs.Ytdphpmejjlgpnaa.PFnLaidOver Go.Proofs.YtdphpmejjlgpnaaW.PrintWords Go.Proofs.YtdphpmejjlgpnaaW.PrintLast
theorem dat_inj {a b : ByteArray} (h : a.data.toList = b.data.toList) : a = b := by
  obtain ⟨⟨a⟩⟩ := a; obtain ⟨⟨b⟩⟩ := b; simpa using h
theorem lst_inj {a b : ByteArray} (h : a.toList = b.toList) : a = b := by
  rw [ByteArray.toList_eq, ByteArray.toList_eq] at h
  exact dat_inj h
theorem nodup_of {l : List ByteArray} (h : (l.map fun s => s.data.toList).Nodup) : l.Nodup := by
  unfold List.Nodup at *
  rw [List.pairwise_map] at h
  exact h.imp (fun hne he => hne (by rw [he]))

section
variable {w : List ByteArray → Int} (h0 : ∀ m, 0 ≤ w m)
include h0
theorem hi_ge : ∀ t : S27, 0 ≤ hi w t := by
  refine S27.ind fun n m ks ih => ?_
  rw [hi]
  have : 0 ≤ hiL w ks := by
    induction ks with
    | nil => exact Int.le_refl _
    | cons t ts ih2 => rw [hiL]; have := ih t List.mem_cons_self; omega
  have := h0 m
  omega
theorem hiL_ge (ks : List S27) : 0 ≤ hiL w ks := by
  cases ks with
  | nil => exact Int.le_refl _
  | cons t ts => rw [hiL]; have := hi_ge h0 t; omega
theorem hi_mem {t : S27} {ks : List S27} (h : t ∈ ks) : hi w t ≤ hiL w ks := by
  induction ks with
  | nil => cases h
  | cons u us ih =>
    rw [hiL]
    rcases List.mem_cons.1 h with rfl | h
    · omega
    · have := ih h; omega
theorem spansL_mem {s : S38} {a : Int} {ks : List S27} (h : s ∈ spansL w a ks) : ∃ t ∈ ks, s ∈ spansP w a t := by
  induction ks with
  | nil => cases h
  | cons u us ih =>
    rw [spansL] at h
    rcases List.mem_append.1 h with h | h
    · exact ⟨u, List.mem_cons_self, h⟩
    · obtain ⟨t, ht, h⟩ := ih h
      exact ⟨t, List.mem_cons_of_mem _ ht, h⟩
theorem mem_spansL {s : S38} {a : Int} {ks : List S27} {t : S27} (ht : t ∈ ks) (h : s ∈ spansP w a t) : s ∈ spansL w a ks := by
  induction ks with
  | nil => cases ht
  | cons u us ih =>
    rw [spansL]
    rcases List.mem_cons.1 ht with rfl | ht
    · exact List.mem_append_left _ h
    · exact List.mem_append_right _ (ih ht)
theorem span_in : ∀ (t : S27) (a : Int), ∀ s ∈ spansP w a t, a ≤ s.f1 ∧ s.f1 ≤ s.f2 ∧ s.f2 ≤ a + 2 * hi w t ∧ s.f1 % 2 = a % 2 := by
  refine S27.ind fun n m ks ih a s hs => ?_
  have hm := h0 m
  have hg := hiL_ge h0 ks
  rw [spansP] at hs
  rw [hi]
  rcases List.mem_cons.1 hs with rfl | hs
  · exact ⟨Int.le_refl _, by simp only; omega, by simp only; omega, rfl⟩
  · obtain ⟨t, ht, hs⟩ := spansL_mem h0 hs
    have h1 := ih t ht _ s hs
    have h2 := hi_mem h0 ht
    omega
theorem span_max : ∀ (t : S27) (a : Int), ∃ s ∈ spansP w a t, s.f2 = a + 2 * hi w t := by
  refine S27.ind fun n m ks ih a => ?_
  have hm := h0 m
  have hL : hiL w ks = 0 ∨ ∃ t ∈ ks, hi w t = hiL w ks := by
    clear ih
    induction ks with
    | nil => exact .inl rfl
    | cons t ts ih2 =>
      rw [hiL]
      have h1 := hi_ge h0 t
      rcases Int.le_total (hi w t) (hiL w ts) with h2 | h2
      · rw [Int.max_eq_right h2]
        rcases ih2 with h3 | ⟨u, hu, he⟩
        · exact .inl h3
        · exact .inr ⟨u, List.mem_cons_of_mem _ hu, he⟩
      · rw [Int.max_eq_left h2]
        exact .inr ⟨t, List.mem_cons_self, rfl⟩
  rw [spansP, hi]
  rcases hL with h1 | ⟨t, ht, he⟩
  · exact ⟨_, List.mem_cons_self, by simp only; omega⟩
  · obtain ⟨s, hs, h2⟩ := ih t ht (a + 2 * w m)
    exact ⟨s, List.mem_cons_of_mem _ (mem_spansL h0 ht hs), by omega⟩
omit h0
theorem span_names : ∀ (t : S27) (a : Int), (spansP w a t).map (·.f0) = segsP t := by
  refine S27.ind fun n m ks ih a => ?_
  rw [spansP, segsP_eq, List.map_cons]
  congr 1
  generalize a + 2 * w m = b
  induction ks with
  | nil => rfl
  | cons t ts ih2 => rw [spansL, segsL_cons, List.map_append, ih t List.mem_cons_self, ih2 (fun u hu => ih u (List.mem_cons_of_mem _ hu))]
/-- What is below a segment begins where it ends, or later. -/
def Apart (l : List S38) (z : List Int) : Prop := l.length = z.length ∧ (∀ k : Nat, k < z.length → 1 ≤ z.getD k 0 ∧ (k : Int) + z.getD k 0 ≤ z.length) ∧ ∀ k i : Nat, k < i → (i : Int) < k + z.getD k 0 → (l.getD k z38).f2 ≤ (l.getD i z38).f1
theorem Apart.append {l l' : List S38} {z z' : List Int} (h : Apart l z) (h' : Apart l' z') : Apart (l ++ l') (z ++ z') := by
  obtain ⟨a1, a2, a3⟩ := h
  obtain ⟨b1, b2, b3⟩ := h'
  have gz : ∀ k, (z ++ z').getD k 0 = if k < z.length then z.getD k 0 else z'.getD (k - z.length) 0 := fun k => by
    simp only [List.getD_eq_getElem?_getD, List.getElem?_append]; split <;> rfl
  have gl : ∀ k, (l ++ l').getD k z38 = if k < l.length then l.getD k z38 else l'.getD (k - l.length) z38 := fun k => by
    simp only [List.getD_eq_getElem?_getD, List.getElem?_append]; split <;> rfl
  refine ⟨by simp [a1, b1], fun k hk => ?_, fun k i hki hi => ?_⟩
  · rw [gz, List.length_append]
    rw [List.length_append] at hk
    split
    · rename_i hc; have := a2 k hc; omega
    · rename_i hc; have := b2 (k - z.length) (by omega); omega
  · rw [gz] at hi
    rw [gl, gl]
    split at hi
    · rename_i hc
      have := a2 k hc
      rw [if_pos (by omega), if_pos (by omega)]
      exact a3 k i hki hi
    · rename_i hc
      rw [if_neg (by omega), if_neg (by omega), a1]
      exact b3 _ _ (by omega) (by omega)
include h0
theorem apart : ∀ (t : S27) (a : Int), Apart (spansP w a t) (sizes t) := by
  refine S27.ind fun n m ks ih a => ?_
  rw [spansP, sizes]
  have hg : ∀ s ∈ spansL w (a + 2 * w m) ks, a + 2 * w m ≤ s.f1 := fun s hs => by
    obtain ⟨t, ht, hs⟩ := spansL_mem h0 hs
    exact (span_in h0 t _ s hs).1
  have hA : Apart (spansL w (a + 2 * w m) ks) (sizesL ks) := by
    clear hg
    generalize a + 2 * w m = b
    induction ks with
    | nil => exact ⟨rfl, (fun k hk => absurd hk (Nat.not_lt_zero _)), (fun k i hki hi => by rw [sizesL, List.getD_nil] at hi; omega)⟩
    | cons t ts ih2 =>
      rw [spansL, sizesL]
      exact (ih t List.mem_cons_self b).append (ih2 (fun u hu => ih u (List.mem_cons_of_mem _ hu)))
  obtain ⟨a1, a2, a3⟩ := hA
  refine ⟨by simp [a1], fun k hk => ?_, fun k i hki hi => ?_⟩
  · rw [List.length_cons] at hk ⊢
    cases k with
    | zero => simp only [List.getD_cons_zero]; omega
    | succ k => rw [List.getD_cons_succ]; have := a2 k (by omega); omega
  · cases i with
    | zero => omega
    | succ i =>
      rw [List.getD_cons_succ]
      cases k with
      | zero =>
        simp only [List.getD_cons_zero] at hi ⊢
        exact hg _ (getD_mem (by omega) _)
      | succ k =>
        rw [List.getD_cons_succ] at hi ⊢
        exact a3 k i (by omega) (by omega)
end

theorem place_at {l : List ByteArray} (hn : l.Nodup) : ∀ (i : Nat) (j : Int), i < l.length → placeFrom (l.getD i ByteArray.empty) l j = j + i := by
  induction l with
  | nil => intro i j hi; cases hi
  | cons x xs ih =>
    intro i j hi
    rw [List.nodup_cons] at hn
    cases i with
    | zero => rw [List.getD_cons_zero, placeFrom, if_pos rfl]; simp
    | succ i =>
      have hi' : i < xs.length := by simpa using hi
      rw [List.getD_cons_succ, placeFrom, if_neg (fun he => hn.1 (by rw [lst_inj he]; exact getD_mem hi' _)), ih hn.2 i (j + 1) hi']
      omega
theorem above_ev (t : S27) (hf : Few t) (hn : (segsP t).Nodup) (hs : ∀ k, k < (sizes t).length → 1 ≤ (sizes t).getD k 0 ∧ (k : Int) + (sizes t).getD k 0 ≤ (sizes t).length) (i k : Nat) (hki : k < i) (hi : i < (nodes t).length) :
    Ev (fun n => impl_Above.f n t.f0 t.f1 t.f2 ((segsP t).getD i ByteArray.empty) ((segsP t).getD k ByteArray.empty)) (decide ((i : Int) < k + (sizes t).getD k 0)) := by
  have h1 := hf.1
  have h2 := segsP_len t
  have h3 := sizesL_len t
  have hsi := hs i (by omega)
  have hsk := hs k (by omega)
  unfold impl_Above.f
  refine Ev.bind (segs_ev t (by omega)) (Ev.bind (sizes_ev t (by omega)) (Ev.bind (place_ev _ _ (by omega)) (Ev.bind (place_ev _ _ (by omega)) ?_)))
  rw [place_at hn i 0 (by omega), place_at hn k 0 (by omega), Int.zero_add, Int.zero_add]
  refine Ev.neg (by omega) ?_
  rw [decide_eq_false (show ¬ ((k : Int) < 0) by omega)]
  refine Ev.next ?_
  simp only [impl_Above.j0]
  have hri : rd (sizes t) (i : Int) = (sizes t).getD i 0 := rfl
  have hrk : rd (sizes t) (k : Int) = (sizes t).getD k 0 := rfl
  rw [hri, hrk, wid (n := (i : Int) + (sizes t).getD i 0) (by omega) (by omega), wid (n := (k : Int) + (sizes t).getD k 0) (by omega) (by omega), wid (n := (i : Int) + (sizes t).getD i 0 - 1) (by omega) (by omega), wid (n := (k : Int) + (sizes t).getD k 0 - 1) (by omega) (by omega)]
  refine Ev.neg (by decide) (Ev.pos (by omega) (Ev.pos (by omega) ?_))
  rw [within_eq, within_eq]
  refine Ev.bind (Ev.ok _) (Ev.neg (by simp only [decide_eq_true_eq]; omega) (Ev.pos (by omega) (Ev.pos (by omega) (Ev.bind (Ev.ok _) ((Ev.ok _).eq ?_)))))
  rw [decide_eq_decide]
  omega

theorem layout_ev {ns : List ByteArray} {ws : List Int} (hw : Small ws) (hn : ns.length = ws.length) (t : S27) (hg : Good t) :
    Ev (fun k => impl_Layout.f k t.f0 t.f1 t.f2 ns ws 64) (spansP (wp ns ws) 64 t, true) := by
  have hb := fl_bd (ns := ns) hw t hg.few
  have hl := hg.few.1
  have hwl := hw.1
  have hsl := spans_len (ns := ns) hw 0 t 64
  have hin := span_in (w := wp ns ws) (fun m => (wp_bd hw m).1) t 64
  have h3 : ∀ (m i : Nat), i + m = (spansP (wp ns ws) 64 t).length → Ev (fun k => impl_Layout.l1 k (spansP (wp ns ws) 64 t) (spansP (wp ns ws) 64 t) ((spansP (wp ns ws) 64 t).length : Int) (i : Int)) (spansP (wp ns ws) 64 t, true) := by
    intro m
    induction m with
    | zero =>
      intro i he
      refine Ev.next ?_
      unfold impl_Layout.l1
      exact Ev.neg (by omega) (Ev.ok _)
    | succ m ih =>
      intro i he
      have h5 := hin _ (getD_mem (show i < (spansP (wp ns ws) 64 t).length by omega) z38)
      refine Ev.next ?_
      unfold impl_Layout.l1
      refine Ev.pos (by omega) (Ev.pos (by omega) (Ev.pos (by omega) ?_))
      rw [rd38, wi (by omega)]
      exact Ev.neg (by omega) (ih (i + 1) (by omega))
  have h4 : ∀ (m i : Nat), i + m = ws.length → Ev (fun k => impl_Layout.l0 k ns ws 64 ws (ws.length : Int) (i : Int) t.f0 t.f1 t.f2) (spansP (wp ns ws) 64 t, true) := by
    intro m
    induction m with
    | zero =>
      intro i he
      refine Ev.next ?_
      unfold impl_Layout.l0
      exact Ev.neg (by omega) (Ev.bind (spans_ev hw (by omega) t 64 hg.few (by omega) (by omega)) (h3 (spansP (wp ns ws) 64 t).length 0 (Nat.zero_add _)))
    | succ m ih =>
      intro i he
      have h5 := hw.2 _ (getD_mem (show i < ws.length by omega) 0)
      refine Ev.next ?_
      unfold impl_Layout.l0
      refine Ev.pos (by omega) (Ev.pos (by omega) (Ev.pos (by omega) ?_))
      have hr : rd ws (i : Int) = ws.getD i 0 := rfl
      rw [within_eq, wi (by omega), hr]
      exact Ev.bind (Ev.ok _) (Ev.pos (decide_eq_true ⟨by omega, by omega⟩) (ih (i + 1) (by omega)))
  unfold impl_Layout.f
  refine Ev.bind (segOk_ev t hg) (Ev.pos rfl ?_)
  rw [within_eq]
  refine Ev.bind (Ev.ok _) (Ev.pos (by decide) (Ev.pos (by decide) ?_))
  refine Ev.next ?_
  unfold impl_Layout.j0
  refine Ev.neg (by simp [hn]) ?_
  exact h4 ws.length 0 (Nat.zero_add _)

def spanFrom (a : ByteArray) : List S38 → S38
  | [] => ⟨⟨#[]⟩, 0, 0⟩
  | x :: xs => if x.f0.toList = a.toList then x else spanFrom a xs
theorem spanOf_ev (a : ByteArray) (l : List S38) (hl : l.length ≤ 1000) : Ev (fun k => laws_spanOf.f k l a) ((spanFrom a l).f0, (spanFrom a l).f1, (spanFrom a l).f2) := by
  have h : ∀ (m i : Nat), i + m = l.length → Ev (fun k => laws_spanOf.l0 k l a (i : Int)) ((spanFrom a (l.drop i)).f0, (spanFrom a (l.drop i)).f1, (spanFrom a (l.drop i)).f2) := by
    intro m
    induction m with
    | zero =>
      intro i he
      refine Ev.next ?_
      unfold laws_spanOf.l0
      rw [show l.drop i = [] from List.drop_eq_nil_of_le (by omega)]
      exact Ev.neg (by omega) (Ev.ok _)
    | succ m ih =>
      intro i he
      have hi : i < l.length := by omega
      refine Ev.next ?_
      unfold laws_spanOf.l0
      refine Ev.pos (by omega) (Ev.pos (by omega) ?_)
      rw [rd38, wi (by omega), drop_at hi z38, spanFrom]
      refine Ev.ite (fun hc => ?_) (fun hc => ?_)
      · rw [if_pos hc]; exact Ev.ok _
      · rw [if_neg hc]; exact ih (i + 1) (by omega)
  exact h l.length 0 (by omega)
theorem spanFrom_at {l : List S38} (hn : (l.map (·.f0)).Nodup) {s : S38} (hs : s ∈ l) : spanFrom s.f0 l = s := by
  induction l with
  | nil => cases hs
  | cons x xs ih =>
    rw [List.map_cons, List.nodup_cons] at hn
    rw [spanFrom]
    rcases List.mem_cons.1 hs with rfl | hs
    · rw [if_pos rfl]
    · rw [if_neg (fun he => hn.1 (by rw [lst_inj he]; exact List.mem_map_of_mem hs)), ih hn.2 hs]
theorem together_ev {w : List ByteArray → Int} {l : List S38} (hl : l.length ≤ 1000) (hn : (l.map (·.f0)).Nodup) : ∀ (t : S27) (a : Int), Few t → (∀ s ∈ spansP w a t, s ∈ l) → Ev (fun k => laws_together.f k l t.f0 t.f1 t.f2) true := by
  refine S27.ind fun n m ks ih a hf hs => ?_
  have hk := hf.kids.len
  rw [spansP] at hs
  have hr := spanFrom_at hn (hs _ List.mem_cons_self)
  have h : ∀ (j i : Nat), i + j = ks.length → Ev (fun k => laws_together.l0 k l (i : Int) n m ks) true := by
    intro j
    induction j with
    | zero =>
      intro i he
      refine Ev.next ?_
      unfold laws_together.l0
      exact Ev.neg (by omega) (Ev.ok _)
    | succ j ih2 =>
      intro i he
      have hi : i < ks.length := by omega
      have hm := getD_mem hi z27
      have hs2 : ∀ s ∈ spansP w (a + 2 * w m) (ks.getD i z27), s ∈ l := fun s h => hs s (List.mem_cons_of_mem _ (by
        clear hs ih ih2 hr he
        induction ks generalizing i with
        | nil => cases hm
        | cons u us ihh =>
          rw [spansL]
          cases i with
          | zero => exact List.mem_append_left _ h
          | succ i =>
            have hi' : i < us.length := by simpa using hi
            exact List.mem_append_right _ (ihh ⟨by have := hf.1; simp [nodes, nodesL] at this ⊢; omega, fun p hp => hf.2 p (by
              rw [nodes] at hp ⊢
              rcases List.mem_cons.1 hp with rfl | hp
              · exact List.mem_cons_self
              · exact List.mem_cons_of_mem _ (by rw [nodesL]; exact List.mem_append_right _ hp))⟩ (by simp at hk; omega) i hi' (getD_mem hi' _) h)))
      have hkid : spanFrom (ks.getD i z27).f0 l = ⟨(ks.getD i z27).f0, a + 2 * w m, a + 2 * w m + 2 * w (ks.getD i z27).f1⟩ := by
        generalize ks.getD i z27 = u at hs2
        obtain ⟨n', m', k'⟩ := u
        rw [spansP] at hs2
        exact spanFrom_at hn (hs2 _ List.mem_cons_self)
      refine Ev.next ?_
      unfold laws_together.l0
      refine Ev.pos (by omega) (Ev.pos (by omega) ?_)
      rw [rd27, wi (by omega)]
      refine Ev.bind (spanOf_ev _ l hl) (Ev.bind (spanOf_ev _ l hl) ?_)
      rw [hkid, hr]
      exact Ev.pos rfl (Ev.bind (ih _ hm _ (hf.kids.kid hm) hs2) (Ev.pos rfl (ih2 (i + 1) (by omega))))
  refine Ev.next ?_
  unfold laws_together.f
  exact h ks.length 0 (by omega)
end Go.Proofs.Ytdphpmejjlgpnaa.Pv
