import Derived.Test.YtdphpmejjlgpnaaD17
set_option linter.unusedVariables false
set_option linter.unusedSimpArgs false
set_option linter.unusedSectionVars false
namespace Go.Proofs.Ytdphpmejjlgpnaa.Pt
open Go.RowKit Go.Proofs.Ytdphpmejjlgpnaa.PFnTreesBent Go.Proofs.YtdphpmejjlgpnaaW.PrintWords Go.Proofs.YtdphpmejjlgpnaaW.PrintLast
def Ev {α : Type} (F : Nat → Option α) (v : α) : Prop := ∃ k0, ∀ k, k0 ≤ k → F k = some v
section
variable {α β : Type}
theorem Ev.ok (v : α) : Ev (fun _ => some v) v := ⟨0, fun _ _ => rfl⟩
theorem Ev.eq {F : Nat → Option α} {v u : α} (h : Ev F v) (e : v = u) : Ev F u := e ▸ h
theorem Ev.bind {F : Nat → Option α} {G : α → Nat → Option β} {a : α} {b : β} (h : Ev F a) (h2 : Ev (G a) b) : Ev (fun k => (F k).bind fun x => G x k) b := by
 obtain ⟨k1, h1⟩ := h
 obtain ⟨k2, h2⟩ := h2
 refine ⟨max k1 k2, fun k hk => ?_⟩
 show (F k).bind _ = _
 rw [h1 k (by omega)]
 exact h2 k (by omega)
theorem Ev.next {F : Nat → Option α} {v : α} (h : Ev (fun k => F (k + 1)) v) : Ev F v := by
 obtain ⟨k0, h⟩ := h
 refine ⟨k0 + 1, fun k hk => ?_⟩
 obtain ⟨j, rfl⟩ : ∃ j, k = j + 1 := ⟨k - 1, by omega⟩
 exact h j (by omega)
theorem Ev.pos {c : Prop} [Decidable c] {A B : Nat → Option α} {v : α} (hc : c) (h : Ev A v) : Ev (fun k => if c then A k else B k) v := by
 simpa only [if_pos hc] using h
theorem Ev.neg {c : Prop} [Decidable c] {A B : Nat → Option α} {v : α} (hc : ¬ c) (h : Ev B v) : Ev (fun k => if c then A k else B k) v := by
 simpa only [if_neg hc] using h
theorem Ev.ite {c : Prop} [Decidable c] {A B : Nat → Option α} {v : α} (h : c → Ev A v) (h2 : ¬ c → Ev B v) : Ev (fun k => if c then A k else B k) v := by
 by_cases hc : c
 ·exact Ev.pos hc (h hc)
 ·exact Ev.neg hc (h2 hc)
theorem Ev.mono {F : Nat → Option α} {v : α} (hm : ∀ k, LeO (F k) (F (k + 1))) (k0 : Nat) (h : F k0 = some v) : Ev F v := by
 refine ⟨k0, fun k hk => ?_⟩
 obtain ⟨d, rfl⟩ : ∃ d, k = k0 + d := ⟨k - k0, by omega⟩
 induction d with
 | zero => exact h
 | succ d ih => exact hm _ _ (ih (by omega))
theorem Ev.get {F : Nat → Option α} {v : α} (h : Ev F v) : ∃ k, F k = some v := by
 obtain ⟨k, h⟩ := h
 exact ⟨k, h k (Nat.le_refl _)⟩
theorem Ev.const {o : Option α} {v : α} (h : o = some v) : Ev (fun _ => o) v := ⟨0, fun _ _ => h⟩
end
theorem wid {n : Int} (h0 : -4611686018427387904 ≤ n) (h1 : n ≤ 4611686018427387904) : wrap64 n = n := by
 unfold wrap64; omega
theorem S27.ind {P : S27 → Prop} (h : ∀ n m ks, (∀ t ∈ ks, P t) → P ⟨n, m, ks⟩) (t : S27) : P t :=
 S27.rec (motive_1 := P) (motive_2 := fun ks => ∀ t ∈ ks, P t) (fun n m ks ih => h n m ks ih) (fun _ h => by cases h) (fun t ts h1 h2 u hu => by
  rcases List.mem_cons.1 hu with rfl | hu
  ·exact h1
  ·exact h2 u hu) t
theorem rd27 (ks : List S27) (i : Nat) : rd_T27 ks (i : Int) = ks.getD i z27 := rfl
theorem rdB (ks : List ByteArray) (i : Nat) : rdOf ByteArray.empty ks (i : Int) = ks.getD i ByteArray.empty := rfl
theorem rd38 (ks : List S38) (i : Nat) : rd_T38 ks (i : Int) = ks.getD i z38 := rfl
theorem wi {i : Nat} (h : i ≤ 1000000) : wrap64 ((i : Int) + 1) = ((i + 1 : Nat) : Int) := wid (by omega) (by omega)
mutual
def nodes : S27 → List (ByteArray × List ByteArray)
 | ⟨n, m, ks⟩ => (n, m) :: nodesL ks
def nodesL : List S27 → List (ByteArray × List ByteArray)
 | [] => []
 | t :: ts => nodes t ++ nodesL ts
end
mutual
def sizes : S27 → List Int
 | ⟨_, _, ks⟩ => ((sizesL ks).length + 1 : Nat) :: sizesL ks
def sizesL : List S27 → List Int
 | [] => []
 | t :: ts => sizes t ++ sizesL ts
end
mutual
def spansP (w : List ByteArray → Int) : Int → S27 → List S38
 | a, ⟨n, m, ks⟩ => ⟨n, a, a + 2 * w m⟩ :: spansL w (a + 2 * w m) ks
def spansL (w : List ByteArray → Int) : Int → List S27 → List S38
 | _, [] => []
 | a, t :: ts => spansP w a t ++ spansL w a ts
end
mutual
def hi (w : List ByteArray → Int) : S27 → Int
 | ⟨_, m, ks⟩ => w m + hiL w ks
def hiL (w : List ByteArray → Int) : List S27 → Int
 | [] => 0
 | t :: ts => max (hi w t) (hiL w ts)
end
mutual
def fl (w : List ByteArray → Int) : S27 → Int
 | ⟨_, m, ks⟩ => w m + flL w ks
def flL (w : List ByteArray → Int) : List S27 → Int
 | [] => 0
 | t :: ts => fl w t + flL w ts
end
def segsP (t : S27) : List ByteArray := (nodes t).map (·.1)
def segsL (ts : List S27) : List ByteArray := (nodesL ts).map (·.1)
def modsP (t : S27) : List ByteArray := (nodes t).flatMap (·.2)
def modsL (ts : List S27) : List ByteArray := (nodesL ts).flatMap (·.2)
theorem segsP_eq (n : ByteArray) (m : List ByteArray) (ks : List S27) : segsP ⟨n, m, ks⟩ = n :: segsL ks := by simp [segsP, nodes, segsL]
theorem segsL_cons (t : S27) (ts : List S27) : segsL (t :: ts) = segsP t ++ segsL ts := by simp [segsP, nodesL, segsL]
theorem modsP_eq (n : ByteArray) (m : List ByteArray) (ks : List S27) : modsP ⟨n, m, ks⟩ = m ++ modsL ks := by simp [modsP, nodes, modsL]
theorem modsL_cons (t : S27) (ts : List S27) : modsL (t :: ts) = modsP t ++ modsL ts := by simp [modsP, nodesL, modsL]
theorem drop_at {α : Type} {xs : List α} {i : Nat} (h : i < xs.length) (z : α) : xs.drop i = xs.getD i z :: xs.drop (i + 1) := by
 rw [List.drop_eq_getElem_cons h, List.getD_eq_getElem?_getD, List.getElem?_eq_getElem h]; rfl
theorem getD_mem {α : Type} {xs : List α} {i : Nat} (h : i < xs.length) (z : α) : xs.getD i z ∈ xs := by
 rw [List.getD_eq_getElem?_getD, List.getElem?_eq_getElem h]; exact List.getElem_mem h
theorem eta27 (t : S27) : (⟨t.f0, t.f1, t.f2⟩ : S27) = t := by cases t; rfl
theorem nodes_pos (t : S27) : 1 ≤ (nodes t).length := by obtain ⟨a, b, c⟩ := t; simp [nodes]
theorem kids_le (ks : List S27) : ks.length ≤ (nodesL ks).length := by
 induction ks with
 | nil => simp [nodesL]
 | cons t ts ih => have := nodes_pos t; simp only [nodesL, List.length_cons, List.length_append]; omega
theorem nodesL_mem {t : S27} {ks : List S27} (h : t ∈ ks) : ∀ p ∈ nodes t, p ∈ nodesL ks := by
 induction ks with
 | nil => cases h
 | cons u us ih =>
  intro p hp
  rw [nodesL]
  rcases List.mem_cons.1 h with rfl | h
  ·exact List.mem_append_left _ hp
  ·exact List.mem_append_right _ (ih h p hp)
theorem nodesL_len {t : S27} {ks : List S27} (h : t ∈ ks) : (nodes t).length ≤ (nodesL ks).length := by
 induction ks with
 | nil => cases h
 | cons u us ih =>
  rw [nodesL, List.length_append]
  rcases List.mem_cons.1 h with rfl | h
  ·omega
  ·have := ih h; omega
theorem segsL_len (ks : List S27) : (segsL ks).length = (nodesL ks).length := by simp [segsL]
theorem segsP_len (t : S27) : (segsP t).length = (nodes t).length := by simp [segsP]
theorem segs_loop (ks : List S27) (hk : ks.length ≤ 1000) (ih : ∀ t ∈ ks, (nodes t).length ≤ 1000 → Ev (fun k => impl_Segs.f k t.f0 t.f1 t.f2) (segsP t)) :
 ∀ (m i : Nat) (acc : List ByteArray), i + m = ks.length → acc.length + (nodesL (ks.drop i)).length ≤ 1000 → Ev (fun k => impl_Segs.l0 k acc ks (ks.length : Int) (i : Int)) (acc ++ segsL (ks.drop i))
 | 0, i, acc, he, _ => by
  refine Ev.next ?_
  unfold impl_Segs.l0
  refine Ev.neg (by omega) ?_
  rw [show ks.drop i = [] from List.drop_eq_nil_of_le (by omega)]
  simpa [segsL, nodesL] using Ev.ok acc
 | m + 1, i, acc, he, hl => by
  have hi : i < ks.length := by omega
  rw [drop_at hi z27, nodesL, List.length_append] at hl
  refine Ev.next ?_
  unfold impl_Segs.l0
  refine Ev.pos (by omega) (Ev.pos (by omega) (Ev.pos (by omega) ?_))
  rw [rd27, wi (by omega)]
  refine Ev.bind (ih _ (getD_mem hi z27) (by omega)) ?_
  have h3 := segsP_len (ks.getD i z27)
  refine Ev.pos (by omega) ?_
  refine (segs_loop ks hk ih m (i + 1) (acc ++ segsP (ks.getD i z27)) (by omega) (by rw [List.length_append]; omega)).eq ?_
  rw [drop_at hi z27, segsL_cons, List.append_assoc]
theorem segs_ev : ∀ t : S27, (nodes t).length ≤ 1000 → Ev (fun k => impl_Segs.f k t.f0 t.f1 t.f2) (segsP t) := by
 refine S27.ind fun n m ks ih hl => ?_
 rw [segsP_eq]
 rw [nodes, List.length_cons] at hl
 refine Ev.next ?_
 unfold impl_Segs.f
 exact segs_loop ks (by have := kids_le ks; omega) ih ks.length 0 [n] (by omega) (by simp only [List.length_cons, List.drop_zero, List.length_nil]; omega)
theorem mods_loop (ks : List S27) (hk : ks.length ≤ 1000) (ih : ∀ t ∈ ks, (nodes t).length + (modsP t).length ≤ 1000 → Ev (fun k => impl_modsOf.f k t.f0 t.f1 t.f2) (modsP t)) :
 ∀ (m i : Nat) (acc : List ByteArray), i + m = ks.length → acc.length + (nodesL (ks.drop i)).length + (modsL (ks.drop i)).length ≤ 1000 → Ev (fun k => impl_modsOf.l0 k acc ks (ks.length : Int) (i : Int)) (acc ++ modsL (ks.drop i))
 | 0, i, acc, he, _ => by
  refine Ev.next ?_
  unfold impl_modsOf.l0
  refine Ev.neg (by omega) ?_
  rw [show ks.drop i = [] from List.drop_eq_nil_of_le (by omega)]
  simpa [modsL, nodesL] using Ev.ok acc
 | m + 1, i, acc, he, hl => by
  have hi : i < ks.length := by omega
  rw [drop_at hi z27, nodesL, modsL_cons, List.length_append, List.length_append] at hl
  have hp := nodes_pos (ks.getD i z27)
  refine Ev.next ?_
  unfold impl_modsOf.l0
  refine Ev.pos (by omega) (Ev.pos (by omega) (Ev.pos (by omega) ?_))
  rw [rd27, wi (by omega)]
  refine Ev.bind (ih _ (getD_mem hi z27) (by omega)) ?_
  refine Ev.pos (by omega) ?_
  refine (mods_loop ks hk ih m (i + 1) (acc ++ modsP (ks.getD i z27)) (by omega) (by rw [List.length_append]; omega)).eq ?_
  rw [drop_at hi z27, modsL_cons, List.append_assoc]
theorem mods_ev : ∀ t : S27, (nodes t).length + (modsP t).length ≤ 1000 → Ev (fun k => impl_modsOf.f k t.f0 t.f1 t.f2) (modsP t) := by
 refine S27.ind fun n m ks ih hl => ?_
 rw [modsP_eq] at hl ⊢
 rw [nodes, List.length_cons, List.length_append] at hl
 refine Ev.next ?_
 unfold impl_modsOf.f
 refine Ev.bind (a := m) (Ev.const ?_) ?_
 ·simp [impl_copyTexts.f]; omega
 ·exact mods_loop ks (by have := kids_le ks; omega) ih ks.length 0 m (by omega) (by simp only [List.drop_zero]; omega)
theorem sizesL_len : ∀ t : S27, (sizes t).length = (nodes t).length := by
 refine S27.ind fun n m ks ih => ?_
 rw [sizes, nodes, List.length_cons, List.length_cons]
 congr 1
 induction ks with
 | nil => rfl
 | cons t ts ih2 => rw [sizesL, nodesL, List.length_append, List.length_append, ih t List.mem_cons_self, ih2 (fun u hu => ih u (List.mem_cons_of_mem _ hu))]
theorem sizesLL_len (ks : List S27) : (sizesL ks).length = (nodesL ks).length := by
 induction ks with
 | nil => rfl
 | cons t ts ih2 => rw [sizesL, nodesL, List.length_append, List.length_append, sizesL_len t, ih2]
theorem sizes_loop (ks : List S27) (hk : ks.length ≤ 1000) (ih : ∀ t ∈ ks, (nodes t).length ≤ 1000 → Ev (fun k => impl_sizesOf.f k t.f0 t.f1 t.f2) (sizes t)) :
 ∀ (m i : Nat) (acc : List Int), i + m = ks.length → 1 ≤ acc.length → acc.length + (nodesL (ks.drop i)).length ≤ 1001 → Ev (fun k => impl_sizesOf.l0 k acc ks (ks.length : Int) (i : Int)) ((acc ++ sizesL (ks.drop i)).set 0 ((acc ++ sizesL (ks.drop i)).length : Int))
 | 0, i, acc, he, h1, _ => by
  refine Ev.next ?_
  unfold impl_sizesOf.l0
  refine Ev.neg (by omega) ?_
  rw [show ks.drop i = [] from List.drop_eq_nil_of_le (by omega)]
  refine Ev.pos (by omega) ?_
  simp only [sizesL, List.append_nil]
  exact Ev.ok _
 | m + 1, i, acc, he, h1, hl => by
  have hi : i < ks.length := by omega
  rw [drop_at hi z27, nodesL, List.length_append] at hl
  refine Ev.next ?_
  unfold impl_sizesOf.l0
  refine Ev.pos (by omega) (Ev.pos (by omega) (Ev.pos (by omega) ?_))
  rw [rd27, wi (by omega)]
  refine Ev.bind (ih _ (getD_mem hi z27) (by omega)) ?_
  have h3 := sizesL_len (ks.getD i z27)
  refine Ev.pos (by omega) ?_
  refine (sizes_loop ks hk ih m (i + 1) (acc ++ sizes (ks.getD i z27)) (by omega) (by rw [List.length_append]; omega) (by rw [List.length_append]; omega)).eq ?_
  rw [drop_at hi z27, sizesL, List.append_assoc]
theorem sizes_ev : ∀ t : S27, (nodes t).length ≤ 1000 → Ev (fun k => impl_sizesOf.f k t.f0 t.f1 t.f2) (sizes t) := by
 refine S27.ind fun n m ks ih hl => ?_
 rw [nodes, List.length_cons] at hl
 refine Ev.next ?_
 unfold impl_sizesOf.f
 refine (sizes_loop ks (by have := kids_le ks; omega) ih ks.length 0 [0] (by omega) (by simp) (by simp only [List.length_cons, List.drop_zero, List.length_nil]; omega)).eq ?_
 simp [sizes]
def placeFrom (a : ByteArray) : List ByteArray → Int → Int
 | [], _ => -1
 | x :: xs, i => if x.toList = a.toList then i else placeFrom a xs (i + 1)
theorem place_ge (a : ByteArray) : ∀ (xs : List ByteArray) (i : Int), 0 ≤ i → placeFrom a xs i = -1 ∨ i ≤ placeFrom a xs i ∧ placeFrom a xs i < i + xs.length
 | [], i, _ => .inl rfl
 | x :: xs, i, h => by
  rw [placeFrom]
  split
  ·right; simp only [List.length_cons]; omega
  ·have := place_ge a xs (i + 1) (by omega)
   simp only [List.length_cons]
   omega
theorem place_loop (a : ByteArray) (xs : List ByteArray) (hx : xs.length ≤ 100000) : ∀ (m i : Nat), i + m = xs.length → Ev (fun k => impl_placeIn.l0 k a xs (xs.length : Int) (i : Int)) (placeFrom a (xs.drop i) i)
 | 0, i, he => by
  refine Ev.next ?_
  unfold impl_placeIn.l0
  refine Ev.neg (by omega) ?_
  rw [show xs.drop i = [] from List.drop_eq_nil_of_le (by omega)]
  exact Ev.ok _
 | m + 1, i, he => by
  have hi : i < xs.length := by omega
  refine Ev.next ?_
  unfold impl_placeIn.l0
  refine Ev.pos (by omega) (Ev.pos (by omega) (Ev.pos (by omega) ?_))
  rw [rdB, wi (by omega), drop_at hi ByteArray.empty, placeFrom]
  refine Ev.ite (fun hc => ?_) (fun hc => ?_)
  ·rw [if_pos hc]; exact Ev.ok _
  ·rw [if_neg hc]; exact place_loop a xs hx m (i + 1) (by omega)
theorem place_ev (a : ByteArray) (xs : List ByteArray) (hx : xs.length ≤ 100000) : Ev (fun k => impl_placeIn.f k xs a) (placeFrom a xs 0) := place_loop a xs hx xs.length 0 (by omega)
theorem within_eq (a b c : Int) : impl_within.f a b c = some (decide (b ≤ a ∧ a ≤ c)) := by
 unfold impl_within.f
 by_cases h : a ≥ b
 ·rw [if_pos h]; congr 1; simp only [decide_eq_decide]; omega
 ·rw [if_neg h]; congr 1; symm; simp only [decide_eq_false_iff_not]; omega
def wv (ns : List ByteArray) (ws : List Int) (x : ByteArray) : Int := if 0 ≤ placeFrom x ns 0 ∧ placeFrom x ns 0 ≤ (ws.length : Int) - 1 then rd ws (placeFrom x ns 0) else 0
def wp (ns : List ByteArray) (ws : List Int) (m : List ByteArray) : Int := (m.map (wv ns ws)).sum
def Bd (ws : List Int) : Prop := ws.length ≤ 100000 ∧ ∀ x ∈ ws, -100000 ≤ x ∧ x ≤ 100000
theorem wv_bd {ns : List ByteArray} {ws : List Int} (h : Bd ws) (x : ByteArray) : -100000 ≤ wv ns ws x ∧ wv ns ws x ≤ 100000 := by
 unfold wv
 split
 ·rename_i hc
  obtain ⟨j, hj⟩ : ∃ j : Nat, placeFrom x ns 0 = j := ⟨(placeFrom x ns 0).toNat, by omega⟩
  rw [hj] at hc ⊢
  exact h.2 _ (getD_mem (xs := ws) (i := j) (by omega) 0)
 ·omega
theorem wp_bd {ns : List ByteArray} {ws : List Int} (h : Bd ws) (m : List ByteArray) : -(100000 * (m.length : Int)) ≤ wp ns ws m ∧ wp ns ws m ≤ 100000 * m.length := by
 unfold wp
 induction m with
 | nil => simp
 | cons x xs ih => have := wv_bd (ns := ns) h x; simp only [List.map_cons, List.sum_cons, List.length_cons]; omega
theorem words_loop {ns : List ByteArray} {ws : List Int} (h : Bd ws) (hn : ns.length ≤ 100000) (ms : List ByteArray) (hm : ms.length ≤ 1000) :
 ∀ (m i : Nat) (acc : Int), i + m = ms.length → -(100000 * (i : Int)) ≤ acc → acc ≤ 100000 * i → Ev (fun k => impl_WordsIn.l0 k ns ws acc ms (ms.length : Int) (i : Int)) (acc + wp ns ws (ms.drop i))
 | 0, i, acc, he, _, _ => by
  refine Ev.next ?_
  unfold impl_WordsIn.l0
  refine Ev.neg (by omega) ?_
  rw [show ms.drop i = [] from List.drop_eq_nil_of_le (by omega)]
  simpa [wp] using Ev.ok acc
 | m + 1, i, acc, he, h0, h1 => by
  have hi : i < ms.length := by omega
  have hb := wv_bd (ns := ns) h (ms.getD i ByteArray.empty)
  refine Ev.next ?_
  unfold impl_WordsIn.l0
  refine Ev.pos (by omega) (Ev.pos (by omega) (Ev.pos (by omega) ?_))
  rw [rdB, wi (by omega), drop_at hi ByteArray.empty]
  refine Ev.bind (place_ev _ _ hn) ?_
  have hl := h.1
  rw [within_eq, wid (n := (ws.length : Int) - 1) (by omega) (by omega)]
  refine Ev.bind (Ev.ok _) ?_
  have e : wp ns ws (ms.getD i ByteArray.empty :: ms.drop (i + 1)) = wv ns ws (ms.getD i ByteArray.empty) + wp ns ws (ms.drop (i + 1)) := by simp [wp]
  rw [e, ← Int.add_assoc]
  refine Ev.ite (fun hc => ?_) (fun hc => ?_)
  ·have hc' := of_decide_eq_true hc
   refine Ev.pos hc'.1 (Ev.pos (by omega) ?_)
   have hv : wv ns ws (ms.getD i ByteArray.empty) = rd ws (placeFrom (ms.getD i ByteArray.empty) ns 0) := if_pos hc'
   rw [← hv, wid (by omega) (by omega)]
   exact words_loop h hn ms hm m (i + 1) _ (by omega) (by omega) (by omega)
  ·have hc' : ¬ _ := fun h2 => hc (decide_eq_true h2)
   have hv : wv ns ws (ms.getD i ByteArray.empty) = 0 := if_neg hc'
   rw [hv, Int.add_zero]
   exact words_loop h hn ms hm m (i + 1) _ (by omega) (by omega) (by omega)
theorem words_ev {ns : List ByteArray} {ws : List Int} (h : Bd ws) (hn : ns.length ≤ 100000) (n : ByteArray) (ms : List ByteArray) (ks : List S27) (hm : ms.length ≤ 1000) : Ev (fun k => impl_WordsIn.f k n ms ks ns ws) (wp ns ws ms) := by
 have := words_loop h hn ms hm ms.length 0 0 (by omega) (by omega) (by omega)
 simpa [impl_WordsIn.f] using this
theorem at_loop (a : ByteArray) (xs : List ByteArray) (hx : xs.length ≤ 100000) : ∀ (m i : Nat), i + m = xs.length → Ev (fun k => spec_l9At.l0 k xs a (i : Int)) (placeFrom a (xs.drop i) i)
 | 0, i, he => by
  refine Ev.next ?_
  unfold spec_l9At.l0
  refine Ev.neg (by omega) ?_
  rw [show xs.drop i = [] from List.drop_eq_nil_of_le (by omega)]
  exact Ev.ok _
 | m + 1, i, he => by
  have hi : i < xs.length := by omega
  refine Ev.next ?_
  unfold spec_l9At.l0
  refine Ev.pos (by omega) (Ev.pos (by omega) ?_)
  rw [rdB, wi (by omega), drop_at hi ByteArray.empty, placeFrom]
  refine Ev.ite (fun hc => ?_) (fun hc => ?_)
  ·rw [if_pos hc]; exact Ev.ok _
  ·rw [if_neg hc]; exact at_loop a xs hx m (i + 1) (by omega)
theorem at_ev (a : ByteArray) (xs : List ByteArray) (hx : xs.length ≤ 100000) : Ev (fun k => spec_l9At.f k xs a) (placeFrom a xs 0) := at_loop a xs hx xs.length 0 (by omega)
theorem swords_loop {ns : List ByteArray} {ws : List Int} (h : Bd ws) (hn : ns.length ≤ 100000) (n : ByteArray) (ms : List ByteArray) (ks : List S27) (hm : ms.length ≤ 1000) :
 ∀ (m i : Nat) (acc : Int), i + m = ms.length → -(100000 * (i : Int)) ≤ acc → acc ≤ 100000 * i → Ev (fun k => spec_WordsIn.l0 k ns ws acc (i : Int) n ms ks) (acc + wp ns ws (ms.drop i))
 | 0, i, acc, he, _, _ => by
  refine Ev.next ?_
  unfold spec_WordsIn.l0
  refine Ev.neg (by omega) ?_
  rw [show ms.drop i = [] from List.drop_eq_nil_of_le (by omega)]
  simpa [wp] using Ev.ok acc
 | m + 1, i, acc, he, h0, h1 => by
  have hi : i < ms.length := by omega
  have hb := wv_bd (ns := ns) h (ms.getD i ByteArray.empty)
  refine Ev.next ?_
  unfold spec_WordsIn.l0
  refine Ev.pos (by omega) (Ev.pos (by omega) ?_)
  rw [rdB, wi (by omega), drop_at hi ByteArray.empty]
  refine Ev.bind (at_ev _ _ hn) ?_
  have hl := h.1
  have e : wp ns ws (ms.getD i ByteArray.empty :: ms.drop (i + 1)) = wv ns ws (ms.getD i ByteArray.empty) + wp ns ws (ms.drop (i + 1)) := by simp [wp]
  rw [e, ← Int.add_assoc]
  have no (hc : ¬ (0 ≤ placeFrom (ms.getD i ByteArray.empty) ns 0 ∧ placeFrom (ms.getD i ByteArray.empty) ns 0 ≤ (ws.length : Int) - 1)) : Ev (fun k => spec_WordsIn.l0 k ns ws acc ((i + 1 : Nat) : Int) n ms ks) (acc + wv ns ws (ms.getD i ByteArray.empty) + wp ns ws (ms.drop (i + 1))) := by
   have hv : wv ns ws (ms.getD i ByteArray.empty) = 0 := if_neg hc
   rw [hv, Int.add_zero]
   exact swords_loop h hn n ms ks hm m (i + 1) _ (by omega) (by omega) (by omega)
  refine Ev.ite (fun hc => Ev.ite (fun hc2 => Ev.pos (by omega) ?_) (fun hc2 => no (by omega))) (fun hc => no (by omega))
  have hv : wv ns ws (ms.getD i ByteArray.empty) = rd ws (placeFrom (ms.getD i ByteArray.empty) ns 0) := if_pos ⟨by omega, by omega⟩
  rw [← hv, wid (by omega) (by omega)]
  exact swords_loop h hn n ms ks hm m (i + 1) _ (by omega) (by omega) (by omega)
theorem swords_ev {ns : List ByteArray} {ws : List Int} (h : Bd ws) (hn : ns.length ≤ 100000) (n : ByteArray) (ms : List ByteArray) (ks : List S27) (hm : ms.length ≤ 1000) : Ev (fun k => spec_WordsIn.f k n ms ks ns ws) (wp ns ws ms) := by
 have := swords_loop h hn n ms ks hm ms.length 0 0 (by omega) (by omega) (by omega)
 simpa [spec_WordsIn.f] using this
theorem ssegs_loop (n : ByteArray) (md : List ByteArray) (ks : List S27) (hk : ks.length ≤ 1000) (ih : ∀ t ∈ ks, (nodes t).length ≤ 1000 → Ev (fun k => spec_Segs.f k t.f0 t.f1 t.f2) (segsP t)) :
 ∀ (m i : Nat) (acc : List ByteArray), i + m = ks.length → acc.length + (nodesL (ks.drop i)).length ≤ 1000 → Ev (fun k => spec_Segs.l0 k acc (i : Int) n md ks) (acc ++ segsL (ks.drop i))
 | 0, i, acc, he, _ => by
  refine Ev.next ?_
  unfold spec_Segs.l0
  refine Ev.neg (by omega) ?_
  rw [show ks.drop i = [] from List.drop_eq_nil_of_le (by omega)]
  simpa [segsL, nodesL] using Ev.ok acc
 | m + 1, i, acc, he, hl => by
  have hi : i < ks.length := by omega
  rw [drop_at hi z27, nodesL, List.length_append] at hl
  refine Ev.next ?_
  unfold spec_Segs.l0
  refine Ev.pos (by omega) (Ev.pos (by omega) ?_)
  rw [rd27, wi (by omega)]
  refine Ev.bind (ih _ (getD_mem hi z27) (by omega)) ?_
  have h3 := segsP_len (ks.getD i z27)
  refine Ev.pos (by omega) ?_
  refine (ssegs_loop n md ks hk ih m (i + 1) (acc ++ segsP (ks.getD i z27)) (by omega) (by rw [List.length_append]; omega)).eq ?_
  rw [drop_at hi z27, segsL_cons, List.append_assoc]
theorem ssegs_ev : ∀ t : S27, (nodes t).length ≤ 1000 → Ev (fun k => spec_Segs.f k t.f0 t.f1 t.f2) (segsP t) := by
 refine S27.ind fun n m ks ih hl => ?_
 rw [segsP_eq]
 rw [nodes, List.length_cons] at hl
 refine Ev.next ?_
 unfold spec_Segs.f
 exact ssegs_loop n m ks (by have := kids_le ks; omega) ih ks.length 0 [n] (by omega) (by simp only [List.length_cons, List.drop_zero, List.length_nil]; omega)
end Go.Proofs.Ytdphpmejjlgpnaa.Pt
