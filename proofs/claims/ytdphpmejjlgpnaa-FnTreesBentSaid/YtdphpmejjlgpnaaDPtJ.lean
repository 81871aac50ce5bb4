import Derived.Test.YtdphpmejjlgpnaaDPtI
set_option linter.unusedVariables false
set_option linter.unusedSimpArgs false
set_option linter.unusedSectionVars false
namespace Go.Proofs.Ytdphpmejjlgpnaa.Pt
open Go.RowKit Go.Proofs.Ytdphpmejjlgpnaa.PFnTreesBent Go.Proofs.YtdphpmejjlgpnaaW.PrintWords Go.Proofs.YtdphpmejjlgpnaaW.PrintLast
theorem sameTexts_ev (l : List ByteArray) (hl : l.length ≤ 1000) : Ev (fun k => laws_sameTexts.f k l l) true := by
 have h : ∀ (m i : Nat), i + m = l.length → Ev (fun k => laws_sameTexts.l0 k l l (i : Int)) true := by
  intro m
  induction m with
  | zero =>
   intro i he
   refine Ev.next ?_
   unfold laws_sameTexts.l0
   exact Ev.neg (by omega) (Ev.ok _)
  | succ m ih =>
   intro i he
   refine Ev.next ?_
   unfold laws_sameTexts.l0
   refine Ev.pos (by omega) (Ev.pos (by omega) (Ev.pos (by omega) (Ev.pos rfl ?_)))
   rw [wi (by omega)]
   exact ih (i + 1) (by omega)
 unfold laws_sameTexts.f
 exact Ev.pos rfl (h l.length 0 (by omega))
section
variable {l : List Int} (hl : l.length ≤ 1048576)
include hl
theorem sany_ev {p c : Int} (hp : At l p) : ∃ ns ws p' c', Bd ws ∧ ns.length ≤ 100000 ∧ At l p' ∧ Ev (fun k => spec_l23Any.f k l p c) (ns, ws, p', c') := by
 obtain ⟨n, ns, ws, p1, c1, ⟨s1, s2, s3⟩, hn, hn1, hp1, e1⟩ := sizes_draw hl (c := c) hp
 obtain ⟨v, p2, c2, e2, v0, v1, hp2⟩ := below_ev l hl 8 (by omega) (by omega) (c := c1) hp1
 have b0 : Bd ws := ⟨by omega, fun x hx => by have := s3 x hx; omega⟩
 by_cases q0 : v = 0
 ·obtain ⟨u, p3, c3, e3, u0, u1, hp3⟩ := below_ev l hl (ws.length : Int) (by omega) (by omega) (c := c2) hp2
  obtain ⟨s, p4, c4, e4, hs, hp4⟩ := int_ev hl [-1, 32767, 32768, 32000] (by decide) (by decide) (c := c3) hp3
  have hb : ∀ x ∈ ([-1, 32767, 32768, 32000] : List Int), -100000 ≤ x ∧ x ≤ 100000 := by decide
  refine ⟨ns, ws.set u.toNat s, p4, c4, ⟨by rw [List.length_set]; omega, fun x hx => ?_⟩, by omega, hp4, ?_⟩
  ·rcases List.mem_or_eq_of_mem_set hx with hx | rfl
   ·exact b0.2 x hx
   ·exact hb _ hs
  ·unfold spec_l23Any.f
   refine Ev.bind e1 ?_
   rw [e2]
   refine Ev.bind (Ev.ok _) (Ev.pos q0 ?_)
   rw [e3]
   refine Ev.bind (Ev.ok _) ?_
   rw [e4]
   exact Ev.bind (Ev.ok _) (Ev.pos u0 (Ev.pos u1 (Ev.ok _)))
 ·by_cases q1 : v = 1
  ·refine ⟨ns, ws.drop 1, p2, c2, ⟨by rw [List.length_drop]; omega, fun x hx => b0.2 x (List.mem_of_mem_drop hx)⟩, by omega, hp2, ?_⟩
   unfold spec_l23Any.f
   refine Ev.bind e1 ?_
   rw [e2]
   exact Ev.bind (Ev.ok _) (Ev.neg q0 (Ev.pos q1 (Ev.pos (show 1 ≤ (ws.length : Int) by omega) (Ev.ok _))))
  ·refine ⟨ns, ws, p2, c2, b0, by omega, hp2, ?_⟩
   unfold spec_l23Any.f
   refine Ev.bind e1 ?_
   rw [e2]
   exact Ev.bind (Ev.ok _) (Ev.neg q0 (Ev.neg q1 (Ev.ok _)))
theorem dlay_ev : ∃ t ns ws a, Tame t ∧ Bd ws ∧ ns.length ≤ 100000 ∧ From a 50 ∧ Ev (fun k => spec_DrawLayout.f k l) (t.f0, t.f1, t.f2, ns, ws, a) := by
 obtain ⟨c, hc⟩ := new_ev l hl
 obtain ⟨n, m, ks, p1, c1, ht, hp1, e1⟩ := any_ev hl (c := c) (p := 0) ⟨by omega, by omega⟩
 obtain ⟨ns, ws, p2, c2, hb, hn, hp2, e2⟩ := sany_ev hl (c := c1) hp1
 obtain ⟨a, p3, c3, e3, ha, hp3⟩ := int_ev hl [0, 64, 1000, 3, 65000, 65536, -2] (by decide) (by decide) (c := c2) hp2
 have hA : ∀ x ∈ ([0, 64, 1000, 3, 65000, 65536, -2] : List Int), -100000 ≤ x ∧ x ≤ 100000 := by decide
 have := hA a ha
 refine ⟨⟨n, m, ks⟩, ns, ws, a, ht, hb, hn, by unfold From; omega, ?_⟩
 unfold spec_DrawLayout.f
 refine Ev.bind hc (Ev.bind e1 (Ev.bind e2 ?_))
 rw [e3]
 exact Ev.bind (Ev.ok _) (Ev.ok _)
theorem dabove_ev : ∃ t x y, Tame t ∧ Ev (fun k => spec_DrawAbove.f k l) (t.f0, t.f1, t.f2, x, y) := by
 obtain ⟨c, hc⟩ := new_ev l hl
 obtain ⟨n, m, ks, p1, c1, ht, hp1, e1⟩ := any_ev hl (c := c) (p := 0) ⟨by omega, by omega⟩
 obtain ⟨x, p2, c2, e2, _, hp2⟩ := str_ev hl [⟨#[114, 111, 111, 116]⟩, ⟨#[97]⟩, ⟨#[98]⟩, ⟨#[100]⟩, ⟨#[101]⟩] (by decide) (by decide) (c := c1) hp1
 obtain ⟨y, p3, c3, e3, _, hp3⟩ := str_ev hl [⟨#[114, 111, 111, 116]⟩, ⟨#[97]⟩, ⟨#[98]⟩, ⟨#[100]⟩, ⟨#[101]⟩, ⟨#[113]⟩] (by decide) (by decide) (c := c2) hp2
 refine ⟨⟨n, m, ks⟩, x, y, ht, ?_⟩
 unfold spec_DrawAbove.f
 refine Ev.bind hc (Ev.bind e1 ?_)
 rw [e2]
 refine Ev.bind (Ev.ok _) ?_
 rw [e3]
 exact Ev.bind (Ev.ok _) (Ev.ok _)
theorem dpeak_ev : ∃ t ns ws, Tame t ∧ Bd ws ∧ ns.length ≤ 100000 ∧ Ev (fun k => spec_DrawPeak.f k l) (t.f0, t.f1, t.f2, ns, ws) := by
 obtain ⟨c, hc⟩ := new_ev l hl
 obtain ⟨n, m, ks, p1, c1, ht, hp1, e1⟩ := any_ev hl (c := c) (p := 0) ⟨by omega, by omega⟩
 obtain ⟨ns, ws, p2, c2, hb, hn, hp2, e2⟩ := sany_ev hl (c := c1) hp1
 refine ⟨⟨n, m, ks⟩, ns, ws, ht, hb, hn, ?_⟩
 unfold spec_DrawPeak.f spec_DrawWordsIn.f
 exact Ev.bind (Ev.bind hc (Ev.bind e1 (Ev.bind e2 (Ev.ok _)))) (Ev.ok _)
end
theorem law_loop (L : List S38) (hL : L.length ≤ 1000) (t u : S27) (ht : Tame t) (hu : Tame u) (x y : ByteArray) (ns : List ByteArray) (ws : List Int) (hb : Bd ws) (hn : ns.length ≤ 100000) :
 ∀ (r i : Nat), i + r = L.length → Ev (fun k => laws_FnTreesBent.l0 k L L x y ns ws (i : Int) t.f0 t.f1 t.f2 u.f0 u.f1 u.f2) true
 | 0, i, he => by
  have h1 := ht.few.1
  have hm : u.f1.length ≤ 1000 := by obtain ⟨a, b, c⟩ := u; have := hu.few.mods; show b.length ≤ 1000; omega
  have hs := segsP_len t
  refine Ev.next ?_
  unfold laws_FnTreesBent.l0
  refine Ev.neg (by omega) (Ev.bind (iabove_ev t (by omega) x y) (Ev.bind (sabove_ev t (by omega) x y) (Ev.pos (by rw [iab_eq ht.uq]; simp) (Ev.bind (iabove_ev t (by omega) x y) (Ev.bind (iabove_ev t (by omega) y x) (Ev.pos (by rw [iab_comm]; simp) ?_))))))
  refine Ev.bind (ipeak_ev hb hn u hu.few hu.named) (Ev.bind (speak_ev hb hn u hu.few hu.named) (Ev.pos rfl ?_))
  refine Ev.bind (fl_ev hb hn u hu.few) (Ev.bind (sfl_ev hb hn u hu.few) (Ev.pos rfl ?_))
  refine Ev.bind (words_ev hb hn u.f0 u.f1 u.f2 hm) (Ev.bind (swords_ev hb hn u.f0 u.f1 u.f2 hm) (Ev.pos rfl ?_))
  exact Ev.bind (segs_ev t (by omega)) (Ev.bind (ssegs_ev t (by omega)) (Ev.bind (sameTexts_ev _ (by omega)) (Ev.ok _)))
 | r + 1, i, he => by
  have hi : i < L.length := by omega
  refine Ev.next ?_
  unfold laws_FnTreesBent.l0
  refine Ev.pos (by omega) (Ev.pos (by omega) (Ev.pos (by omega) (Ev.neg (by simp) ?_)))
  rw [wi (by omega)]
  exact law_loop L hL t u ht hu x y ns ws hb hn r (i + 1) (by omega)
theorem fin_len (l : List S38) : (fin l).1.length ≤ l.length := by unfold fin; split <;> simp
theorem lay_len (ns : List ByteArray) (ws : List Int) (a : Int) (t : S27) : (lay ns ws a t).1.length ≤ (nodes t).length := by
 unfold lay
 repeat' split
 all_goals first | (refine Nat.le_trans (fin_len _) ?_; rw [spans_len]; exact Nat.le_refl _) | exact Nat.zero_le _
theorem law : laws_FnTreesBent.Pure := by
 intro l0 _ _ _
 by_cases hl : l0.length ≤ 1048576
 ·obtain ⟨t, ns, ws, a, ht, hb, hn, ha, e1⟩ := dlay_ev hl
  obtain ⟨t2, x, y, ht2, e2⟩ := dabove_ev hl
  obtain ⟨t3, ns3, ws3, ht3, hb3, hn3, e3⟩ := dpeak_ev hl
  have h1 := ht.few.1
  have hll := lay_len ns ws a t
  refine Ev.get (v := true) ?_
  unfold laws_FnTreesBent.f
  refine Ev.bind (a := false) (Ev.const ?_) (Ev.neg (by simp) ?_)
  ·unfold laws_big.f; rw [decide_eq_false (by omega)]
  refine Ev.bind e1 (Ev.bind (ilay_ev hb hn t ht.few ht.named a ha) (Ev.bind (slay_ev hb hn t ht.few ht.named a ha) (Ev.bind e2 (Ev.bind e3 ?_))))
  refine Ev.neg (by simp) ?_
  refine Ev.next ?_
  unfold laws_FnTreesBent.j0
  refine Ev.neg (by simp) ?_
  exact law_loop (lay ns ws a t).1 (by omega) t2 t3 ht2 ht3 x y ns3 ws3 hb3 hn3 (lay ns ws a t).1.length 0 (by omega)
 ·refine ⟨0, ?_⟩
  unfold laws_FnTreesBent.f
  simp only [laws_big.f]
  rw [decide_eq_true (by omega)]
  rfl
end Go.Proofs.Ytdphpmejjlgpnaa.Pt
