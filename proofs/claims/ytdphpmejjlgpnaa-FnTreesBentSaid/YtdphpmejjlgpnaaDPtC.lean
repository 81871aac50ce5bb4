import Derived.Test.YtdphpmejjlgpnaaDPtB
set_option linter.unusedVariables false
set_option linter.unusedSimpArgs false
set_option linter.unusedSectionVars false
namespace Go.Proofs.Ytdphpmejjlgpnaa.Pt
open Go.RowKit Go.Proofs.Ytdphpmejjlgpnaa.PFnTreesBent Go.Proofs.YtdphpmejjlgpnaaW.PrintWords Go.Proofs.YtdphpmejjlgpnaaW.PrintLast
theorem dat_inj {a b : ByteArray} (h : a.data.toList = b.data.toList) : a = b := by
 obtain ⟨⟨a⟩⟩ := a; obtain ⟨⟨b⟩⟩ := b; simpa using h
theorem lst_inj {a b : ByteArray} (h : a.toList = b.toList) : a = b := by
 rw [ByteArray.toList_eq, ByteArray.toList_eq] at h
 exact dat_inj h
def ndp (l : List ByteArray) : Bool := decide (l.map fun s => s.data.toList).Nodup
theorem ndp_iff {l : List ByteArray} : ndp l = true ↔ l.Nodup := by
 unfold ndp
 rw [decide_eq_true_eq]
 unfold List.Nodup
 rw [List.pairwise_map]
 exact ⟨fun h => h.imp (fun hne he => hne (by rw [he])), fun h => h.imp (fun hne he => hne (dat_inj he))⟩
theorem ndp_left {l l' : List ByteArray} (h : ndp (l ++ l') = true) : ndp l = true := ndp_iff.2 (List.nodup_append.1 (ndp_iff.1 h)).1
theorem place_mem (a : ByteArray) : ∀ (xs : List ByteArray) (i : Int), 0 ≤ i → (0 ≤ placeFrom a xs i ↔ a ∈ xs)
 | [], i, _ => by simp [placeFrom]
 | x :: xs, i, h => by
  rw [placeFrom, List.mem_cons]
  by_cases hc : x.toList = a.toList
  ·rw [if_pos hc]; exact ⟨fun _ => .inl (lst_inj hc).symm, fun _ => h⟩
  ·rw [if_neg hc, place_mem a xs (i + 1) (by omega)]
   exact ⟨.inr, fun h => h.resolve_left (fun e => hc (by rw [e]))⟩
def nameOk (s : ByteArray) : Bool := impl_isName.f 60 s == some true
def Nm (s : ByteArray) : Prop := Ev (fun k => impl_isName.f k s) (nameOk s) ∧ Ev (fun k => spec_l9Name.f k s) (nameOk s)
theorem nm_of {s : ByteArray} (h : ((impl_isName.f 60 s).isSome && spec_l9Name.f 60 s == impl_isName.f 60 s) = true) : Nm s := by
 rw [Bool.and_eq_true, beq_iff_eq] at h
 obtain ⟨h1, h2⟩ := h
 obtain ⟨b, hb⟩ := Option.isSome_iff_exists.1 h1
 have e : nameOk s = b := by unfold nameOk; rw [hb]; cases b <;> rfl
 rw [hb] at h2
 unfold Nm
 rw [e]
 exact ⟨Ev.mono (impl_isName.mono s) 60 hb, Ev.mono (spec_l9Name.mono s) 60 h2⟩
def Named (ps : List (ByteArray × List ByteArray)) : Prop := ∀ p ∈ ps, Nm p.1 ∧ ∀ x ∈ p.2, Nm x
theorem Named.kid {ks : List S27} (h : Named (nodesL ks)) {t : S27} (ht : t ∈ ks) : Named (nodes t) := fun p hp => h p (nodesL_mem ht p hp)
mutual
def tOk : Int → S27 → Bool
 | d, ⟨n, m, ks⟩ => decide (1 ≤ d) && (nameOk n && (decide (m.length ≤ 6) && (decide (ks.length ≤ 12) && (m.all nameOk && tOkL (d - 1) ks))))
def tOkL : Int → List S27 → Bool
 | _, [] => true
 | d, t :: ts => tOk d t && tOkL d ts
end
theorem tkids (d : Int) (h1 : 1 ≤ d) (hd : d ≤ 100) (ks : List S27) (hk : ks.length ≤ 1000)
 (ih : ∀ t ∈ ks, Ev (fun k => impl_treeOk.f k t.f0 t.f1 t.f2 (d - 1)) (tOk (d - 1) t)) :
 ∀ (m i : Nat), i + m = ks.length → Ev (fun k => impl_treeOk.l1 k d ks (ks.length : Int) (i : Int)) (tOkL (d - 1) (ks.drop i))
 | 0, i, he => by
  refine Ev.next ?_
  unfold impl_treeOk.l1
  rw [show ks.drop i = [] from List.drop_eq_nil_of_le (by omega)]
  exact Ev.neg (by omega) (Ev.ok _)
 | m + 1, i, he => by
  have hi : i < ks.length := by omega
  refine Ev.next ?_
  unfold impl_treeOk.l1
  refine Ev.pos (by omega) (Ev.pos (by omega) (Ev.pos (by omega) ?_))
  rw [rd27, wi (by omega), wid (n := d - 1) (by omega) (by omega), drop_at hi z27, tOkL]
  refine Ev.bind (ih _ (getD_mem hi z27)) ?_
  cases tOk (d - 1) (ks.getD i z27) with
  | true => exact Ev.pos rfl (tkids d h1 hd ks hk ih m (i + 1) (by omega))
  | false => exact Ev.neg (by simp) (Ev.ok _)
theorem tmods (d : Int) (h1 : 1 ≤ d) (hd : d ≤ 100) (n0 : ByteArray) (m0 : List ByteArray) (ks : List S27) (hk : ks.length ≤ 1000) (ms : List ByteArray) (hms : ms.length ≤ 1000) (hn : ∀ x ∈ ms, Nm x)
 (ih : ∀ t ∈ ks, Ev (fun k => impl_treeOk.f k t.f0 t.f1 t.f2 (d - 1)) (tOk (d - 1) t)) :
 ∀ (m i : Nat), i + m = ms.length → Ev (fun k => impl_treeOk.l0 k d ms (ms.length : Int) (i : Int) n0 m0 ks) ((ms.drop i).all nameOk && tOkL (d - 1) ks)
 | 0, i, he => by
  refine Ev.next ?_
  unfold impl_treeOk.l0
  rw [show ms.drop i = [] from List.drop_eq_nil_of_le (by omega)]
  exact Ev.neg (by omega) (tkids d h1 hd ks hk ih ks.length 0 (by omega))
 | m + 1, i, he => by
  have hi : i < ms.length := by omega
  refine Ev.next ?_
  unfold impl_treeOk.l0
  refine Ev.pos (by omega) (Ev.pos (by omega) (Ev.pos (by omega) ?_))
  rw [rdB, wi (by omega), drop_at hi ByteArray.empty, List.all_cons]
  refine Ev.bind (hn _ (getD_mem hi _)).1 ?_
  cases nameOk (ms.getD i ByteArray.empty) with
  | true => exact Ev.pos rfl (tmods d h1 hd n0 m0 ks hk ms hms hn ih m (i + 1) (by omega))
  | false => exact Ev.neg (by simp) (Ev.ok _)
theorem tree_ev : ∀ (t : S27) (d : Int), d ≤ 100 → Few t → Named (nodes t) → Ev (fun k => impl_treeOk.f k t.f0 t.f1 t.f2 d) (tOk d t) := by
 refine S27.ind fun n m ks ih d hd hf hn => ?_
 have hm := hf.mods
 have hk := hf.kids
 have hl := hk.len
 rw [nodes] at hn
 obtain ⟨n1, n2⟩ := hn (n, m) List.mem_cons_self
 have no (A : List S27) : Ev (fun k => impl_treeOk.j0 k d true n m A) false := by
  refine Ev.next ?_
  unfold impl_treeOk.j0
  exact Ev.pos rfl (Ev.ok _)
 rw [tOk]
 refine Ev.next ?_
 unfold impl_treeOk.f
 by_cases h1 : d < 1
 ·rw [decide_eq_false (show ¬ 1 ≤ d by omega)]
  exact Ev.pos h1 (no ks)
 ·rw [decide_eq_true (show 1 ≤ d by omega), Bool.true_and]
  refine Ev.neg h1 (Ev.bind n1.1 ?_)
  show Ev (fun k => if nameOk n = true then (if (m.length : Int) > 6 then impl_treeOk.j0 k d true n m ks else impl_treeOk.j0 k d (decide ((ks.length : Int) > 12)) n m ks) else impl_treeOk.j0 k d true n m ks) _
  cases nameOk n with
  | false => exact Ev.neg (by simp) (no ks)
  | true =>
   refine Ev.pos rfl ?_
   by_cases h6 : m.length ≤ 6
   ·rw [decide_eq_true h6, Bool.true_and, Bool.true_and]
    refine Ev.neg (by omega) ?_
    by_cases h12 : ks.length ≤ 12
    ·rw [decide_eq_true h12, Bool.true_and]
     refine Ev.next ?_
     unfold impl_treeOk.j0
     refine Ev.neg (by simp only [decide_eq_true_eq]; omega) ?_
     exact tmods d (by omega) hd n m ks (by omega) m (by omega) n2 (fun t ht => ih t ht (d - 1) (by omega) (hk.kid ht) (Named.kid (fun p hp => hn p (List.mem_cons_of_mem _ hp)) ht)) m.length 0 (by omega)
    ·rw [decide_eq_false h12, decide_eq_true (show (ks.length : Int) > 12 by omega)]
     exact no ks
   ·rw [decide_eq_false h6]
    exact Ev.pos (by omega) (no ks)
theorem segsP_few {t : S27} (h : Few t) : (segsP t).length ≤ 50 := by rw [segsP_len]; exact h.1
theorem mods_few {ps : List (ByteArray × List ByteArray)} (h : ∀ p ∈ ps, p.2.length ≤ 10) : (ps.flatMap (·.2)).length ≤ 10 * ps.length := by
 induction ps with
 | nil => simp
 | cons p ps ih => have h1 := h p List.mem_cons_self; have h2 := ih (fun q hq => h q (List.mem_cons_of_mem _ hq)); simp only [List.flatMap_cons, List.length_append, List.length_cons]; omega
def iok (t : S27) : Bool := tOk 4 t && (decide ((segsP t).length ≤ 12) && (ndp (segsP t) && ndp (modsP t)))
theorem iok_ev (t : S27) (hf : Few t) (hn : Named (nodes t)) : Ev (fun k => impl_SegOk.f k t.f0 t.f1 t.f2) (iok t) := by
 have h1 := hf.1
 have hms : (modsP t).length ≤ 1000 := Nat.le_trans (mods_few hf.2) (by omega)
 have hs := segsP_few hf
 have hs12 := segsP_len t
 unfold impl_SegOk.f iok
 refine Ev.bind (tree_ev t 4 (by omega) hf hn) ?_
 cases tOk 4 t with
 | false => exact Ev.neg (by simp) (Ev.ok _)
 | true =>
  rw [Bool.true_and]
  refine Ev.pos rfl (Ev.bind (segs_ev t (by omega)) ?_)
  by_cases h12 : (segsP t).length ≤ 12
  ·rw [decide_eq_true h12, Bool.true_and]
   refine Ev.pos (by omega) (Ev.bind (segs_ev t (by omega)) ?_)
   refine Ev.bind (a := ndp (segsP t)) (Ev.const ?_) ?_
   ·unfold impl_unlike.f; rw [if_pos (by omega)]; rfl
   ·cases ndp (segsP t) with
    | false => exact Ev.neg (by simp) (Ev.ok _)
    | true =>
     rw [Bool.true_and]
     refine Ev.pos rfl ?_
     have h10 : (modsP t).length ≤ 10 * (nodes t).length := mods_few hf.2
     refine Ev.bind (mods_ev t (by omega)) (Ev.bind (a := ndp (modsP t)) (Ev.const ?_) (Ev.ok _))
     unfold impl_unlike.f; rw [if_pos (by omega)]; rfl
  ·rw [decide_eq_false h12]
   exact Ev.neg (by omega) (Ev.ok _)
end Go.Proofs.Ytdphpmejjlgpnaa.Pt
