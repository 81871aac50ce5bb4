import Derived.Test.YtdphpmejjlgpnaaDPtH
set_option linter.unusedVariables false
set_option linter.unusedSimpArgs false
set_option linter.unusedSectionVars false
namespace Go.Proofs.Ytdphpmejjlgpnaa.Pt
open Go.RowKit Go.Proofs.Ytdphpmejjlgpnaa.PFnTreesBent Go.Proofs.YtdphpmejjlgpnaaW.PrintWords Go.Proofs.YtdphpmejjlgpnaaW.PrintLast
def up (i : Nat) : ByteArray := (⟨#[117, 112]⟩ : ByteArray) ++ od i
def wn (i : Nat) : ByteArray := (⟨#[119]⟩ : ByteArray) ++ od i
def L0 : List ByteArray := [⟨#[]⟩, ⟨#[97]⟩, ⟨#[109, 111, 118]⟩, ⟨#[115, 101, 118, 101, 110, 108, 101]⟩]
def L1 : List ByteArray := [⟨#[109, 48]⟩, ⟨#[113]⟩, ⟨#[65]⟩]
def WN : List ByteArray := [wn 0, wn 1, wn 2, wn 3, wn 4, wn 5, wn 6]
def ALLN : List ByteArray := rootN :: m0N :: (L0 ++ (L1 ++ ([up 1, up 2, up 3] ++ (WN ++ (AN 6 ++ AM 6)))))
theorem all_ok : ALLN.all (fun s => (impl_isName.f 60 s).isSome && spec_l9Name.f 60 s == impl_isName.f 60 s) = true := by decide +kernel
theorem all_nm {s : ByteArray} (h : s ∈ ALLN) : Nm s := nm_of (List.all_eq_true.1 all_ok s h)
theorem ups_nodup : ndp (up 2 :: up 3 :: rootN :: AN 6) = true := by decide +kernel
theorem ws_nodup : ndp (AN 6 ++ WN) = true := by decide +kernel
theorem oct0_ev : Ev (fun k => spec_Oct.f k 0) (od 0) := Ev.mono (spec_Oct.mono _) 1 (by decide +kernel)
structure Tame (t : S27) : Prop where
 few : Few t
 named : Named (nodes t)
 uq : Uq t
theorem tame_of {n : ByteArray} {m : List ByteArray} {ks : List S27} (hn : n ∈ ALLN) (hm : ∀ x ∈ m, x ∈ ALLN) (hml : m.length ≤ 10) (hl : (nodesL ks).length ≤ 49) (h2 : ∀ p ∈ nodesL ks, p.2.length ≤ 10 ∧ p.1 ∈ ALLN ∧ ∀ x ∈ p.2, x ∈ ALLN) (hu : (segsL ks).Nodup) : Tame ⟨n, m, ks⟩ := by
 refine ⟨⟨by rw [nodes, List.length_cons]; omega, fun p hp => ?_⟩, fun p hp => ?_, hu⟩
 ·rw [nodes] at hp
  rcases List.mem_cons.1 hp with rfl | hp
  ·exact hml
  ·exact (h2 p hp).1
 ·rw [nodes] at hp
  rcases List.mem_cons.1 hp with rfl | hp
  ·exact ⟨all_nm hn, fun x hx => all_nm (hm x hx)⟩
  ·exact ⟨all_nm (h2 p hp).2.1, fun x hx => all_nm ((h2 p hp).2.2 x hx)⟩
theorem in_an {s : ByteArray} {i : Nat} (hi : i ≤ 6) (h : s ∈ AN i) : s ∈ ALLN := by
 have := (AN_sub hi).subset h
 unfold ALLN
 simp only [List.mem_cons, List.mem_append]
 exact .inr (.inr (.inr (.inr (.inr (.inr (.inl this))))))
theorem in_am {s : ByteArray} {i : Nat} (hi : i ≤ 6) (h : s ∈ AM i) : s ∈ ALLN := by
 have := (AM_sub hi).subset h
 unfold ALLN
 simp only [List.mem_cons, List.mem_append]
 exact .inr (.inr (.inr (.inr (.inr (.inr (.inr this))))))
theorem Kids.facts {i : Nat} (hi : i ≤ 6) {ks : List S27} (h : Kids i ks) : (nodesL ks).length ≤ 6 ∧ (∀ p ∈ nodesL ks, p.2.length ≤ 10 ∧ p.1 ∈ ALLN ∧ ∀ x ∈ p.2, x ∈ ALLN) ∧ (segsL ks).Perm (AN i) := by
 have hl := h.len
 obtain ⟨h1, L, h2, h3⟩ := h
 obtain ⟨f1, f2, f3, f4⟩ := h2.facts
 have hN : (segsL ks).Perm (AN i) := by unfold segsL; exact (h3.map (·.1)).trans (by rw [f3])
 refine ⟨by omega, fun p hp => ⟨Nat.le_trans (f2 p (h3.subset hp)) (by omega), in_an hi ?_, fun x hx => in_am hi ?_⟩, hN⟩
 ·rw [← f3]; exact List.mem_map_of_mem (h3.subset hp)
 ·exact f4.subset (List.mem_flatMap.2 ⟨p, h3.subset hp, hx⟩)
theorem segsL_snoc (ks : List S27) (n : ByteArray) : segsL (ks ++ [⟨n, [], []⟩]) = segsL ks ++ [n] := by
 unfold segsL
 rw [nodesL_append, List.map_append, kid_nodes]; rfl
theorem m0_in : ∀ x ∈ [m0N], x ∈ ALLN := fun x hx => by rw [List.mem_singleton.1 hx]; simp [ALLN]
theorem root_in : rootN ∈ ALLN := by simp [ALLN]
theorem l0_in {s : ByteArray} (h : s ∈ L0) : s ∈ ALLN := by
 unfold ALLN; simp only [List.mem_cons, List.mem_append]; exact .inr (.inr (.inl h))
theorem l1_in {s : ByteArray} (h : s ∈ L1) : s ∈ ALLN := by
 unfold ALLN; simp only [List.mem_cons, List.mem_append]; exact .inr (.inr (.inr (.inl h)))
theorem up_in {i : Nat} (h1 : 1 ≤ i) (h3 : i ≤ 3) : up i ∈ ALLN := by
 have : i = 1 ∨ i = 2 ∨ i = 3 := by omega
 rcases this with rfl | rfl | rfl <;> simp [ALLN]
theorem wn_in {s : ByteArray} (h : s ∈ WN) : s ∈ ALLN := by
 unfold ALLN; simp only [List.mem_cons, List.mem_append]; exact .inr (.inr (.inr (.inr (.inr (.inl h)))))
section
variable {l : List Int} (hl : l.length ≤ 1048576)
theorem wrap_step (i : Nat) (h1 : 1 ≤ i) (h3 : i ≤ 3) {p c : Int} {n : ByteArray} {m : List ByteArray} {ks : List S27} {v : Res}
 (h : Ev (fun k => spec_l22Any.l0 k ((i - 1 : Nat) : Int) l p c (up i) [] [⟨n, m, ks⟩]) v) : Ev (fun k => spec_l22Any.l0 k (i : Int) l p c n m ks) v := by
 refine Ev.next ?_
 unfold spec_l22Any.l0
 refine Ev.pos (by omega) (Ev.bind (oct_ev i h1 (by omega)) (Ev.pos (by show 2 + 1 ≤ 9223372036854775807; decide) ?_))
 rw [wid (n := (i : Int) - 1) (by omega) (by omega), show (i : Int) - 1 = ((i - 1 : Nat) : Int) by omega]
 exact h
theorem wrap_end {p c : Int} {n : ByteArray} {m : List ByteArray} {ks : List S27} : Ev (fun k => spec_l22Any.l0 k ((0 : Nat) : Int) l p c n m ks) (n, m, ks, p, c) := by
 refine Ev.next ?_
 unfold spec_l22Any.l0
 exact Ev.neg (by omega) (Ev.ok _)
theorem more_step (i : Nat) (h6 : i ≤ 6) {p c : Int} {n : ByteArray} {m : List ByteArray} {ks : List S27} (hk : ks.length ≤ 1000) {v : Res}
 (h : Ev (fun k => spec_l22Any.l1 k ((i + 1 : Nat) : Int) l p c n m (ks ++ [⟨wn i, [], []⟩])) v) : Ev (fun k => spec_l22Any.l1 k (i : Int) l p c n m ks) v := by
 have ho : Ev (fun k => spec_Oct.f k (i : Int)) (od i) := by
  by_cases hi : i = 0
  ·subst hi; exact oct0_ev
  ·exact oct_ev i (by omega) (by omega)
 refine Ev.next ?_
 unfold spec_l22Any.l1
 refine Ev.pos (by omega) (Ev.bind ho (Ev.pos (by show 1 + 1 ≤ 9223372036854775807; decide) (Ev.pos (by omega) ?_)))
 rw [wi (by omega)]
 exact h
theorem more_end {p c : Int} {n : ByteArray} {m : List ByteArray} {ks : List S27} : Ev (fun k => spec_l22Any.l1 k ((7 : Nat) : Int) l p c n m ks) (n, m, ks, p, c) := by
 refine Ev.next ?_
 unfold spec_l22Any.l1
 exact Ev.neg (by omega) (Ev.ok _)
include hl
theorem str_ev (L : List ByteArray) (h1 : 1 ≤ L.length) (h2 : L.length ≤ 256) {p c : Int} (hp : At l p) : ∃ s p' c', spec_l1Str.f l p c L = some (s, p', c') ∧ s ∈ L ∧ At l p' := by
 obtain ⟨v, p', c', e, v0, v1, hp'⟩ := below_ev l hl (L.length : Int) (by omega) (by omega) (c := c) hp
 obtain ⟨v, rfl⟩ : ∃ n : Nat, v = n := ⟨v.toNat, by omega⟩
 refine ⟨rdOf ByteArray.empty L v, p', c', ?_, by rw [rdB]; exact getD_mem (by omega) _, hp'⟩
 unfold spec_l1Str.f
 rw [e, Option.bind_some, if_pos (by omega), if_pos (by omega)]
theorem int_ev (L : List Int) (h1 : 1 ≤ L.length) (h2 : L.length ≤ 256) {p c : Int} (hp : At l p) : ∃ s p' c', spec_l1Int.f l p c L = some (s, p', c') ∧ s ∈ L ∧ At l p' := by
 obtain ⟨v, p', c', e, v0, v1, hp'⟩ := below_ev l hl (L.length : Int) (by omega) (by omega) (c := c) hp
 obtain ⟨v, rfl⟩ : ∃ n : Nat, v = n := ⟨v.toNat, by omega⟩
 refine ⟨rd L v, p', c', ?_, by rw [rdI]; exact getD_mem (by omega) _, hp'⟩
 unfold spec_l1Int.f
 rw [e, Option.bind_some, if_pos (by omega), if_pos (by omega)]
theorem any_ev {p c : Int} (hp : At l p) : ∃ n m ks p' c', Tame ⟨n, m, ks⟩ ∧ At l p' ∧ Ev (fun k => spec_l22Any.f k l p c) (n, m, ks, p', c') := by
 obtain ⟨ks, p1, c1, ⟨i, hi, hk⟩, hp1, e1⟩ := draw_ev hl (c := c) hp
 obtain ⟨v, p2, c2, e2, v0, v1, hp2⟩ := below_ev l hl 12 (by omega) (by omega) (c := c1) hp1
 obtain ⟨k1, k2, k3⟩ := hk.facts hi
 have hkl := kids_le ks
 have hnd : (segsL ks).Nodup := k3.nodup_iff.2 ((AN_sub hi).nodup (ndp_iff.1 (ndp_left ws_nodup)))
 have t0 : Tame ⟨rootN, [m0N], ks⟩ := tame_of root_in m0_in (by simp) (by omega) k2 hnd
 have hseg : (segsP ⟨rootN, [m0N], ks⟩).Nodup ∧ (up 3 :: segsP ⟨rootN, [m0N], ks⟩).Nodup ∧ (up 2 :: up 3 :: segsP ⟨rootN, [m0N], ks⟩).Nodup := by
  rw [segsP_eq]
  have h3 : (up 2 :: up 3 :: rootN :: segsL ks).Nodup := by
   have hpm : (up 2 :: up 3 :: rootN :: segsL ks).Perm (up 2 :: up 3 :: rootN :: AN i) := ((k3.cons _).cons _).cons _
   exact hpm.nodup_iff.2 ((((AN_sub hi).cons_cons _).cons_cons _).cons_cons _ |>.nodup (ndp_iff.1 ups_nodup))
  exact ⟨(List.nodup_cons.1 (List.nodup_cons.1 h3).2).2, (List.nodup_cons.1 h3).2, h3⟩
 have n0 : nodes ⟨rootN, [m0N], ks⟩ = (rootN, [m0N]) :: nodesL ks := by rw [nodes]
 have h0 : ∀ q ∈ nodes ⟨rootN, [m0N], ks⟩, q.2.length ≤ 10 ∧ q.1 ∈ ALLN ∧ ∀ x ∈ q.2, x ∈ ALLN := by
  rw [n0]
  intro q hq
  rcases List.mem_cons.1 hq with rfl | hq
  ·exact ⟨by simp, root_in, m0_in⟩
  ·exact k2 q hq
 have hw {t : S27} {u : ByteArray} (hu : u ∈ ALLN) (h : ∀ q ∈ nodes t, q.2.length ≤ 10 ∧ q.1 ∈ ALLN ∧ ∀ x ∈ q.2, x ∈ ALLN) : ∀ q ∈ nodes ⟨u, [], [t]⟩, q.2.length ≤ 10 ∧ q.1 ∈ ALLN ∧ ∀ x ∈ q.2, x ∈ ALLN := by
  intro q hq
  rw [nodes, nodesL, nodesL, List.append_nil] at hq
  rcases List.mem_cons.1 hq with rfl | hq
  ·exact ⟨by simp, hu, fun x hx => by cases hx⟩
  ·exact h q hq
 have one (t : S27) : nodesL [t] = nodes t := by rw [nodesL, nodesL, List.append_nil]
 have ones (t : S27) : segsL [t] = segsP t := by unfold segsL segsP; rw [one]
 have base {n m ks' p' c'} (ht : Tame ⟨n, m, ks'⟩) (hp' : At l p') (h : Ev (fun k => if v = 0 then (spec_l1Str.f l p2 c2 L0).bind fun b => some (b.1, [m0N], ks, b.2.1, b.2.2) else if v = 1 then (spec_l1Str.f l p2 c2 L1).bind fun b => (if [m0N].length < 8796093022208 then some (rootN, [m0N] ++ [b.1], ks, b.2.1, b.2.2) else none) else if v = 2 then (spec_l1Below.f l p2 c2 4).bind fun b => spec_l22Any.l0 k b.1 l b.2.1 b.2.2 rootN [m0N] ks else if v = 3 then spec_l22Any.l1 k 0 l p2 c2 rootN [m0N] ks else some (rootN, [m0N], ks, p2, c2)) (n, m, ks', p', c')) :
  ∃ n m ks p' c', Tame ⟨n, m, ks⟩ ∧ At l p' ∧ Ev (fun k => spec_l22Any.f k l p c) (n, m, ks, p', c') := by
  refine ⟨n, m, ks', p', c', ht, hp', ?_⟩
  unfold spec_l22Any.f
  refine Ev.bind e1 ?_
  rw [e2]
  exact Ev.bind (Ev.ok _) h
 by_cases q0 : v = 0
 ·obtain ⟨s, p3, c3, e3, hs, hp3⟩ := str_ev hl L0 (by decide) (by decide) (c := c2) hp2
  refine base (c' := c3) (tame_of (l0_in hs) m0_in (by simp) (by omega) k2 hnd) hp3 (Ev.pos q0 ?_)
  rw [e3]
  exact Ev.bind (Ev.ok _) (Ev.ok _)
 ·by_cases q1 : v = 1
  ·obtain ⟨s, p3, c3, e3, hs, hp3⟩ := str_ev hl L1 (by decide) (by decide) (c := c2) hp2
   refine base (c' := c3) (tame_of root_in (m := [m0N] ++ [s]) (fun x hx => ?_) (by simp) (by omega) k2 hnd) hp3 (Ev.neg q0 (Ev.pos q1 ?_))
   ·rcases List.mem_append.1 hx with hx | hx
    ·exact m0_in x hx
    ·rw [List.mem_singleton.1 hx]; exact l1_in hs
   ·rw [e3]
    exact Ev.bind (Ev.ok _) (Ev.pos (by decide) (Ev.ok _))
  ·by_cases q2 : v = 2
   ·obtain ⟨u, p3, c3, e3, u0, u1, hp3⟩ := below_ev l hl 4 (by omega) (by omega) (c := c2) hp2
    have : u = ((0 : Nat) : Int) ∨ u = ((1 : Nat) : Int) ∨ u = ((2 : Nat) : Int) ∨ u = ((3 : Nat) : Int) := by omega
    have go {n m ks'} (ht : Tame ⟨n, m, ks'⟩) (h : Ev (fun k => spec_l22Any.l0 k u l p3 c3 rootN [m0N] ks) (n, m, ks', p3, c3)) : ∃ n m ks p' c', Tame ⟨n, m, ks⟩ ∧ At l p' ∧ Ev (fun k => spec_l22Any.f k l p c) (n, m, ks, p', c') := by
     refine base (c' := c3) ht hp3 (Ev.neg q0 (Ev.neg q1 (Ev.pos q2 ?_)))
     rw [e3]
     exact Ev.bind (Ev.ok _) h
    rcases this with rfl | rfl | rfl | rfl
    ·exact go t0 wrap_end
    ·refine go (tame_of (up_in (i := 1) (by omega) (by omega)) (fun x hx => by cases hx) (by simp) ?_ ?_ ?_) (wrap_step 1 (by omega) (by omega) wrap_end)
     ·rw [one, n0, List.length_cons]; omega
     ·rw [one]; exact h0
     ·rw [ones]; exact hseg.1
    ·refine go (tame_of (up_in (i := 1) (by omega) (by omega)) (fun x hx => by cases hx) (by simp) ?_ ?_ ?_) (wrap_step 2 (by omega) (by omega) (wrap_step 1 (by omega) (by omega) wrap_end))
     ·rw [one, nodes, one, n0, List.length_cons, List.length_cons]; omega
     ·rw [one]; exact hw (up_in (i := 2) (by omega) (by omega)) h0
     ·rw [ones, segsP_eq, ones]; exact (List.nodup_cons.1 (show (up 3 :: up 2 :: segsP ⟨rootN, [m0N], ks⟩).Nodup from (List.Perm.swap _ _ _).nodup_iff.1 hseg.2.2)).2
    ·refine go (tame_of (up_in (i := 1) (by omega) (by omega)) (fun x hx => by cases hx) (by simp) ?_ ?_ ?_) (wrap_step 3 (by omega) (by omega) (wrap_step 2 (by omega) (by omega) (wrap_step 1 (by omega) (by omega) wrap_end)))
     ·rw [one, nodes, one, nodes, one, n0, List.length_cons, List.length_cons, List.length_cons]; omega
     ·rw [one]; exact hw (up_in (i := 2) (by omega) (by omega)) (hw (up_in (i := 3) (by omega) (by omega)) h0)
     ·rw [ones, segsP_eq, ones, segsP_eq, ones]; exact hseg.2.2
   ·by_cases q3 : v = 3
    ·refine base (n := rootN) (m := [m0N]) (c' := c2) (ks' := ((((((ks ++ [⟨wn 0, [], []⟩]) ++ [⟨wn 1, [], []⟩]) ++ [⟨wn 2, [], []⟩]) ++ [⟨wn 3, [], []⟩]) ++ [⟨wn 4, [], []⟩]) ++ [⟨wn 5, [], []⟩]) ++ [⟨wn 6, [], []⟩]) (tame_of root_in m0_in (by simp) ?_ ?_ ?_) hp2 (Ev.neg q0 (Ev.neg q1 (Ev.neg q2 (Ev.pos q3 ?_))))
     ·simp only [nodesL_append, kid_nodes, List.length_append, List.length_cons, List.length_nil]; omega
     ·intro q hq
      simp only [nodesL_append, kid_nodes, List.mem_append, List.mem_singleton] at hq
      have hW (s : ByteArray) (h : s ∈ WN) (hq : q = (s, [])) : q.2.length ≤ 10 ∧ q.1 ∈ ALLN ∧ ∀ x ∈ q.2, x ∈ ALLN := by
       subst hq
       exact ⟨by simp, wn_in h, fun x hx => by cases hx⟩
      rcases hq with ((((((hq | hq) | hq) | hq) | hq) | hq) | hq) | hq
      ·exact k2 q hq
      all_goals exact hW _ (by simp [WN]) hq
     ·have e : segsL (((((((ks ++ [⟨wn 0, [], []⟩]) ++ [⟨wn 1, [], []⟩]) ++ [⟨wn 2, [], []⟩]) ++ [⟨wn 3, [], []⟩]) ++ [⟨wn 4, [], []⟩]) ++ [⟨wn 5, [], []⟩]) ++ [⟨wn 6, [], []⟩]) = segsL ks ++ WN := by
       rw [segsL_snoc, segsL_snoc, segsL_snoc, segsL_snoc, segsL_snoc, segsL_snoc, segsL_snoc]
       simp only [List.append_assoc, List.singleton_append, WN, List.cons_append, List.nil_append]
      rw [e]
      exact (k3.append_right WN).nodup_iff.2 (((AN_sub hi).append_right WN).nodup (ndp_iff.1 ws_nodup))
     ·have hA (ks2 : List S27) (s : S27) (h : ks2.length ≤ 900) : (ks2 ++ [s]).length ≤ 1000 := by simp only [List.length_append, List.length_cons, List.length_nil]; omega
      refine more_step 0 (by omega) (by omega) (more_step 1 (by omega) ?_ (more_step 2 (by omega) ?_ (more_step 3 (by omega) ?_ (more_step 4 (by omega) ?_ (more_step 5 (by omega) ?_ (more_step 6 (by omega) ?_ more_end))))))
      all_goals (simp only [List.length_append, List.length_cons, List.length_nil]; omega)
    ·exact base t0 hp2 (Ev.neg q0 (Ev.neg q1 (Ev.neg q2 (Ev.neg q3 (Ev.ok _)))))
end
end Go.Proofs.Ytdphpmejjlgpnaa.Pt
