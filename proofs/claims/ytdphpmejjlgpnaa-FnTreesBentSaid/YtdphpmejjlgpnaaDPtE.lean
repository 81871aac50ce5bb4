import Derived.Test.YtdphpmejjlgpnaaDPtD
set_option linter.unusedVariables false
set_option linter.unusedSimpArgs false
set_option linter.unusedSectionVars false
namespace Go.Proofs.Ytdphpmejjlgpnaa.Pt
open Go.RowKit Go.Proofs.Ytdphpmejjlgpnaa.PFnTreesBent Go.Proofs.YtdphpmejjlgpnaaW.PrintWords Go.Proofs.YtdphpmejjlgpnaaW.PrintLast
theorem l1In_eq (a b c : Int) : spec_l1In.f a b c = some (decide (b ≤ a ∧ a ≤ c)) := by
 unfold spec_l1In.f
 by_cases h : a ≥ b
 ·rw [if_pos h]; congr 1; simp only [decide_eq_decide]; omega
 ·rw [if_neg h]; congr 1; symm; simp only [decide_eq_false_iff_not]; omega
def inW (x : Int) : Bool := decide (0 ≤ x ∧ x ≤ 32767)
def low (s : S38) : Bool := decide (s.f2 ≤ 65536)
def fin (l : List S38) : List S38 × Bool := if l.all low = true then (l, true) else ([], false)
theorem fin_impl (l : List S38) (hl : l.length ≤ 1000) : ∀ (r i : Nat), i + r = l.length → Ev (fun k => impl_Layout.l1 k l l (l.length : Int) (i : Int)) (if (l.drop i).all low = true then (l, true) else ([], false))
 | 0, i, he => by
  refine Ev.next ?_
  unfold impl_Layout.l1
  rw [show l.drop i = [] from List.drop_eq_nil_of_le (by omega)]
  exact Ev.neg (by omega) (Ev.ok _)
 | r + 1, i, he => by
  have hi : i < l.length := by omega
  refine Ev.next ?_
  unfold impl_Layout.l1
  refine Ev.pos (by omega) (Ev.pos (by omega) (Ev.pos (by omega) ?_))
  rw [rd38, wi (by omega), drop_at hi z38, List.all_cons]
  refine Ev.ite (fun hc => (Ev.ok _).eq ?_) (fun hc => (fin_impl l hl r (i + 1) (by omega)).eq ?_)
  ·rw [show low (l.getD i z38) = false from decide_eq_false (by omega)]; rfl
  ·rw [show low (l.getD i z38) = true from decide_eq_true (by omega)]; rfl
theorem fin_spec (l : List S38) (hl : l.length ≤ 1000) : ∀ (r i : Nat), i + r = l.length → Ev (fun k => spec_Layout.l0 k l (i : Int)) (if (l.drop i).all low = true then (l, true) else ([], false))
 | 0, i, he => by
  refine Ev.next ?_
  unfold spec_Layout.l0
  rw [show l.drop i = [] from List.drop_eq_nil_of_le (by omega)]
  exact Ev.neg (by omega) (Ev.ok _)
 | r + 1, i, he => by
  have hi : i < l.length := by omega
  refine Ev.next ?_
  unfold spec_Layout.l0
  refine Ev.pos (by omega) (Ev.pos (by omega) ?_)
  rw [rd38, wi (by omega), drop_at hi z38, List.all_cons]
  refine Ev.ite (fun hc => (Ev.ok _).eq ?_) (fun hc => (fin_spec l hl r (i + 1) (by omega)).eq ?_)
  ·rw [show low (l.getD i z38) = false from decide_eq_false (by omega)]; rfl
  ·rw [show low (l.getD i z38) = true from decide_eq_true (by omega)]; rfl
theorem rdI (ws : List Int) (i : Nat) : rd ws (i : Int) = ws.getD i 0 := rfl
theorem iw_loop (ns : List ByteArray) (ws : List Int) (hw : ws.length ≤ 100000) (a : Int) (n : ByteArray) (m : List ByteArray) (ks : List S27) (L : List S38) (hL : L.length ≤ 1000) (h : Ev (fun k => impl_spans.f k n m ks ns ws a) L) :
 ∀ (r i : Nat), i + r = ws.length → Ev (fun k => impl_Layout.l0 k ns ws a ws (ws.length : Int) (i : Int) n m ks) (if (ws.drop i).all inW = true then fin L else ([], false))
 | 0, i, he => by
  refine Ev.next ?_
  unfold impl_Layout.l0
  rw [show ws.drop i = [] from List.drop_eq_nil_of_le (by omega)]
  exact Ev.neg (by omega) (Ev.bind h (fin_impl L hL L.length 0 (by omega)))
 | r + 1, i, he => by
  have hi : i < ws.length := by omega
  refine Ev.next ?_
  unfold impl_Layout.l0
  refine Ev.pos (by omega) (Ev.pos (by omega) (Ev.pos (by omega) ?_))
  rw [rdI, wi (by omega), drop_at hi 0, List.all_cons, within_eq]
  refine Ev.bind (Ev.ok _) ?_
  show Ev (fun k => if inW (ws.getD i 0) = true then _ else _) _
  cases inW (ws.getD i 0) with
  | true => exact Ev.pos rfl (iw_loop ns ws hw a n m ks L hL h r (i + 1) (by omega))
  | false => exact Ev.neg (by simp) (Ev.ok _)
theorem sw_loop (ns : List ByteArray) (ws : List Int) (hw : ws.length ≤ 100000) :
 ∀ (r i : Nat), i + r = ws.length → Ev (fun k => spec_l23Right.l0 k ns ws (i : Int)) ((ws.drop i).all inW && ((ns.length : Int) == (ws.length : Int)))
 | 0, i, he => by
  refine Ev.next ?_
  unfold spec_l23Right.l0
  rw [show ws.drop i = [] from List.drop_eq_nil_of_le (by omega)]
  exact Ev.neg (by omega) (Ev.ok _)
 | r + 1, i, he => by
  have hi : i < ws.length := by omega
  refine Ev.next ?_
  unfold spec_l23Right.l0
  refine Ev.pos (by omega) (Ev.pos (by omega) ?_)
  rw [rdI, wi (by omega), drop_at hi 0, List.all_cons, l1In_eq]
  refine Ev.bind (Ev.ok _) ?_
  show Ev (fun k => if inW (ws.getD i 0) = true then _ else _) _
  cases inW (ws.getD i 0) with
  | true => exact Ev.pos rfl (sw_loop ns ws hw r (i + 1) (by omega))
  | false => exact Ev.neg (by simp) (Ev.ok _)
def lay (ns : List ByteArray) (ws : List Int) (a : Int) (t : S27) : List S38 × Bool :=
 if iok t = true then (if 0 ≤ a ∧ a ≤ 65535 then (if Int.tmod a 2 = 0 then (if ((ns.length : Int) == (ws.length : Int)) = true then (if ws.all inW = true then fin (spansP (wp ns ws) a t) else ([], false)) else ([], false)) else ([], false)) else ([], false)) else ([], false)
section
variable {ns : List ByteArray} {ws : List Int} (hw : Bd ws) (hn : ns.length ≤ 100000) (t : S27) (hf : Few t) (hN : Named (nodes t)) (a : Int) (ha : From a 50)
include hw hn hf hN ha
theorem ilay_ev : Ev (fun k => impl_Layout.f k t.f0 t.f1 t.f2 ns ws a) (lay ns ws a t) := by
 have h1 := hf.1
 have hA : From a (nodes t).length := by unfold From at ha ⊢; omega
 have hsp := spans_ev hw hn t a hf hA
 have hln := spans_len (wp ns ws) t a
 have no : Ev (fun k => impl_Layout.j0 k ns ws a true t.f0 t.f1 t.f2) ([], false) := by
  refine Ev.next ?_
  unfold impl_Layout.j0
  exact Ev.pos rfl (Ev.ok _)
 unfold impl_Layout.f lay
 refine Ev.bind (iok_ev t hf hN) ?_
 cases iok t with
 | false => exact Ev.neg (by simp) (no.eq (by simp))
 | true =>
  rw [if_pos rfl]
  refine Ev.pos rfl ?_
  rw [within_eq]
  refine Ev.bind (Ev.ok _) ?_
  by_cases hr : 0 ≤ a ∧ a ≤ 65535
  ·rw [if_pos hr]
   refine Ev.pos (decide_eq_true hr) ?_
   by_cases h2 : Int.tmod a 2 = 0
   ·rw [if_pos h2]
    refine Ev.pos h2 ?_
    show Ev (fun k => impl_Layout.j0 k ns ws a (!((ns.length : Int) == (ws.length : Int))) t.f0 t.f1 t.f2) _
    cases ((ns.length : Int) == (ws.length : Int)) with
    | true =>
     refine Ev.next ?_
     unfold impl_Layout.j0
     refine Ev.neg (by simp) ?_
     rw [if_pos rfl]
     exact iw_loop ns ws hw.1 a _ _ _ _ (by omega) hsp ws.length 0 (by omega)
    | false => exact no.eq (by simp)
   ·rw [if_neg h2]; exact Ev.neg h2 no
  ·rw [if_neg hr]; exact Ev.neg (by simpa using hr) no
theorem slay_ev : Ev (fun k => spec_Layout.f k t.f0 t.f1 t.f2 ns ws a) (lay ns ws a t) := by
 have h1 := hf.1
 have hA : From a (nodes t).length := by unfold From at ha ⊢; omega
 have hsp := lay_ev hw hn t a hf hA
 have hln := spans_len (wp ns ws) t a
 have no : Ev (fun k => spec_Layout.j0 k ns ws a true t.f0 t.f1 t.f2) ([], false) := by
  refine Ev.next ?_
  unfold spec_Layout.j0
  exact Ev.pos rfl (Ev.ok _)
 unfold spec_Layout.f lay
 refine Ev.bind (sok_ev t hf hN) ?_
 cases iok t with
 | false => exact Ev.neg (by simp) (no.eq (by simp))
 | true =>
  rw [if_pos rfl]
  refine Ev.pos rfl ?_
  rw [l1In_eq]
  refine Ev.bind (Ev.ok _) ?_
  by_cases hr : 0 ≤ a ∧ a ≤ 65535
  ·rw [if_pos hr]
   refine Ev.pos (decide_eq_true hr) ?_
   by_cases h2 : Int.tmod a 2 = 0
   ·rw [if_pos h2]
    refine Ev.pos h2 (Ev.bind (sw_loop ns ws hw.1 ws.length 0 (by omega)) ?_)
    rw [List.drop_zero]
    cases hq : ((ns.length : Int) == (ws.length : Int)) with
    | true =>
     rw [if_pos rfl]
     cases ws.all inW with
     | true =>
      rw [if_pos rfl]
      refine Ev.next ?_
      unfold spec_Layout.j0
      exact Ev.neg (by simp) (Ev.bind hsp (fin_spec _ (by omega) (spansP (wp ns ws) a t).length 0 (by omega)))
     | false => exact no.eq (by simp)
    | false =>
     rw [Bool.and_false]
     exact no.eq (by simp)
   ·rw [if_neg h2]; exact Ev.neg h2 no
  ·rw [if_neg hr]; exact Ev.neg (by simpa using hr) no
def pk (ns : List ByteArray) (ws : List Int) (t : S27) : Int := if iok t = true then hi (wp ns ws) t else 0
omit ha in
theorem ipeak_ev : Ev (fun k => impl_Peak.f k t.f0 t.f1 t.f2 ns ws) (pk ns ws t) := by
 unfold impl_Peak.f pk
 refine Ev.bind (iok_ev t hf hN) ?_
 cases iok t with
 | false => exact Ev.neg (by simp) ((Ev.ok _).eq (by simp))
 | true => exact Ev.pos rfl (Ev.bind (hi_ev hw hn t hf) ((Ev.ok _).eq (by simp)))
omit ha in
theorem speak_ev : Ev (fun k => spec_Peak.f k t.f0 t.f1 t.f2 ns ws) (pk ns ws t) := by
 unfold spec_Peak.f pk
 refine Ev.bind (sok_ev t hf hN) ?_
 cases iok t with
 | false => exact Ev.neg (by simp) ((Ev.ok _).eq (by simp))
 | true => exact Ev.pos rfl (Ev.bind (peak_ev hw hn t hf) ((Ev.ok _).eq (by simp)))
end
end Go.Proofs.Ytdphpmejjlgpnaa.Pt
