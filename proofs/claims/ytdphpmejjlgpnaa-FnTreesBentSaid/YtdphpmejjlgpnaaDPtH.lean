import Derived.Test.YtdphpmejjlgpnaaDPtG
set_option linter.unusedVariables false
set_option linter.unusedSimpArgs false
set_option linter.unusedSectionVars false
namespace Go.Proofs.Ytdphpmejjlgpnaa.Pt
open Go.RowKit Go.Proofs.Ytdphpmejjlgpnaa.PFnTreesBent Go.Proofs.YtdphpmejjlgpnaaW.PrintWords Go.Proofs.YtdphpmejjlgpnaaW.PrintLast
mutual
def deep : S27 → Int
 | ⟨_, _, ks⟩ => 1 + deepL ks
def deepL : List S27 → Int
 | [] => 0
 | t :: ts => max (deep t) (deepL ts)
end
theorem deepL_ge (ks : List S27) : 0 ≤ deepL ks := by
 induction ks with
 | nil => exact Int.le_refl _
 | cons t ts ih => rw [deepL]; omega
theorem deep_mem {t : S27} {ks : List S27} (h : t ∈ ks) : deep t ≤ deepL ks := by
 induction ks with
 | nil => cases h
 | cons u us ih =>
  rw [deepL]
  rcases List.mem_cons.1 h with rfl | h
  ·omega
  ·have := ih h; omega
theorem and255 (x : Int) : 0 ≤ Go.bits .and .i64 x 255 ∧ Go.bits .and .i64 x 255 ≤ 255 := by
 have h : (BitVec.ofInt IntKind.i64.bits x &&& BitVec.ofInt IntKind.i64.bits 255).toNat ≤ 255 := by
  rw [BitVec.toNat_and]
  exact Nat.le_trans Nat.and_le_right (by decide)
 simp only [Go.bits]
 generalize (BitVec.ofInt IntKind.i64.bits x &&& BitVec.ofInt IntKind.i64.bits 255).toNat = n at h
 rw [i64_w, wid (by omega) (by omega)]
 omega
section
variable (l : List Int)
def At (p : Int) : Prop := 0 ≤ p ∧ p ≤ l.length
theorem byte_ev (hl : l.length ≤ 1048576) {p c : Int} (h : At l p) : ∃ v p' c', spec_l1Byte.f l p c = some (v, p', c') ∧ 0 ≤ v ∧ v ≤ 255 ∧ At l p' := by
 obtain ⟨h0, h1⟩ := h
 unfold spec_l1Byte.f
 split
 ·refine ⟨_, _, _, rfl, (and255 _).1, (and255 _).2, ?_⟩
  rw [wid (n := p + 1) (by omega) (by omega)]
  exact ⟨by omega, by omega⟩
 ·exact ⟨_, _, _, rfl, (and255 _).1, (and255 _).2, h0, h1⟩
theorem below_ev (hl : l.length ≤ 1048576) (n : Int) (hn : 1 ≤ n) (hn2 : n ≤ 256) {p c : Int} (h : At l p) : ∃ v p' c', spec_l1Below.f l p c n = some (v, p', c') ∧ 0 ≤ v ∧ v < n ∧ At l p' := by
 obtain ⟨v, p', c', e, h0, h1, h2⟩ := byte_ev l hl (c := c) h
 unfold spec_l1Below.f
 rw [if_neg (by omega), if_pos hn2, e, Option.bind_some, if_neg (by omega)]
 refine ⟨_, _, _, rfl, ?_, ?_, h2⟩
 ·rw [Int.tmod_eq_emod_of_nonneg h0]; exact Int.emod_nonneg _ (by omega)
 ·rw [Int.tmod_eq_emod_of_nonneg h0]; exact Int.emod_lt_of_pos _ (by omega)
theorem once_ev (hl : l.length ≤ 1048576) (n : Int) (hn : 1 ≤ n) (hn2 : n ≤ 256) {p c : Int} (h : At l p) : ∃ v p' c', spec_l1Once.f l p c n = some (v, p', c') ∧ At l p' := by
 obtain ⟨v, p', c', e, _, _, h2⟩ := below_ev l hl n hn hn2 (c := c) h
 unfold spec_l1Once.f
 rw [e]
 exact ⟨_, _, _, rfl, h2⟩
theorem new_ev (hl : l.length ≤ 1048576) : ∃ c, Ev (fun k => spec_l1New.f k l) (l, 0, c) := by
 have h : ∀ (m i : Nat) (x : Int), i + m = 4000 → ∃ c, Ev (fun k => spec_l1New.l0 k l x (i : Int)) (l, 0, c) := by
  intro m
  induction m with
  | zero =>
   intro i x he
   refine ⟨x, Ev.next ?_⟩
   unfold spec_l1New.l0
   exact Ev.ite (fun _ => Ev.neg (by omega) (Ev.ok _)) (fun _ => Ev.ok _)
  | succ m ih =>
   intro i x he
   by_cases hi : (i : Int) < (l.length : Int)
   ·obtain ⟨c, hc⟩ := ih (i + 1) (Go.bits .and .i64 (wrap64 ((wrap64 ((wrap64 (x * 137)) + (wrap64 (rd l i)))) + 11)) 1073741823) (by omega)
    refine ⟨c, Ev.next ?_⟩
    unfold spec_l1New.l0
    rw [wi (by omega)]
    exact Ev.pos hi (Ev.pos (by omega) (Ev.pos (by omega) hc))
   ·refine ⟨x, Ev.next ?_⟩
    unfold spec_l1New.l0
    exact Ev.neg hi (Ev.ok _)
 unfold spec_l1New.f
 exact h 4000 0 _ (by omega)
end
def NL : List ByteArray := [⟨#[114, 111, 111, 116]⟩, ⟨#[97]⟩, ⟨#[98]⟩, ⟨#[100]⟩, ⟨#[101]⟩, ⟨#[102]⟩, ⟨#[120]⟩]
def nm (i : Nat) : ByteArray := NL.getD i ByteArray.empty
def od (i : Nat) : ByteArray := ⟨#[(48 + i).toUInt8]⟩
def md (i j : Nat) : ByteArray := ((⟨#[110]⟩ : ByteArray) ++ od i) ++ od j
theorem oct_ev (i : Nat) (h1 : 1 ≤ i) (h7 : i ≤ 7) : Ev (fun k => spec_Oct.f k (i : Int)) (od i) := by
 have : i = 1 ∨ i = 2 ∨ i = 3 ∨ i = 4 ∨ i = 5 ∨ i = 6 ∨ i = 7 := by omega
 rcases this with rfl | rfl | rfl | rfl | rfl | rfl | rfl <;> exact Ev.mono (spec_Oct.mono _) 1 (by decide +kernel)
def AN : Nat → List ByteArray
 | 0 => []
 | n + 1 => AN n ++ [nm (n + 1)]
def AM : Nat → List ByteArray
 | 0 => []
 | n + 1 => AM n ++ [md (n + 1) 2, md (n + 1) 1]
theorem AN_sub {m n : Nat} (h : m ≤ n) : (AN m).Sublist (AN n) := by
 induction h with
 | refl => exact List.Sublist.refl _
 | step _ ih => exact ih.trans (List.sublist_append_left _ _)
theorem AM_sub {m n : Nat} (h : m ≤ n) : (AM m).Sublist (AM n) := by
 induction h with
 | refl => exact List.Sublist.refl _
 | step _ ih => exact ih.trans (List.sublist_append_left _ _)
def ms (i : Nat) : Nat → List ByteArray
 | 0 => []
 | 1 => [md i 1]
 | _ => [md i 2, md i 1]
theorem ms_len (i c : Nat) : (ms i c).length ≤ 2 := by unfold ms; split <;> simp
theorem ms_sub (i c : Nat) : (ms i c).Sublist [md i 2, md i 1] := by
 unfold ms; split
 ·exact List.nil_sublist _
 ·exact List.sublist_cons_self _ _
 ·exact List.Sublist.refl _
inductive Chosen : Nat → List (ByteArray × List ByteArray) → Prop
 | none : Chosen 0 []
 | more {i : Nat} {L : List (ByteArray × List ByteArray)} (c : Nat) (h : Chosen i L) : Chosen (i + 1) (L ++ [(nm (i + 1), ms (i + 1) c)])
theorem Chosen.facts {i : Nat} {L : List (ByteArray × List ByteArray)} (h : Chosen i L) : L.length = i ∧ (∀ p ∈ L, p.2.length ≤ 2) ∧ L.map (·.1) = AN i ∧ (L.flatMap (·.2)).Sublist (AM i) := by
 induction h with
 | none => exact ⟨rfl, fun _ h => by (cases h), rfl, List.Sublist.refl _⟩
 | @more i L c h ih =>
  obtain ⟨h1, h2, h3, h4⟩ := ih
  refine ⟨by simp [h1], fun p hp => ?_, by simp [h3, AN], ?_⟩
  ·rcases List.mem_append.1 hp with hp | hp
   ·exact h2 p hp
   ·rw [List.mem_singleton.1 hp]; exact ms_len _ _
  ·rw [List.flatMap_append, AM]
   exact h4.append (by simpa using ms_sub (i + 1) c)
def Kids (i : Nat) (ks : List S27) : Prop := deepL ks ≤ 3 ∧ ∃ L, Chosen i L ∧ (nodesL ks).Perm L
theorem nodesL_append (ks k' : List S27) : nodesL (ks ++ k') = nodesL ks ++ nodesL k' := by
 induction ks with
 | nil => rfl
 | cons t ts ih => rw [List.cons_append, nodesL, nodesL, ih, List.append_assoc]
theorem deepL_append (ks k' : List S27) : deepL (ks ++ k') = max (deepL ks) (deepL k') := by
 induction ks with
 | nil => have := deepL_ge k'; rw [List.nil_append, deepL]; omega
 | cons t ts ih => rw [List.cons_append, deepL, deepL, ih]; omega
theorem nodesL_set {X : List (ByteArray × List ByteArray)} (t' : S27) : ∀ (ks : List S27) (p : Nat), p < ks.length → (nodes t').Perm (nodes (ks.getD p z27) ++ X) → (nodesL (ks.set p t')).Perm (nodesL ks ++ X)
 | [], p, hp, _ => by cases hp
 | t :: ts, 0, _, h => by
  rw [List.set_cons_zero, nodesL, nodesL]
  rw [List.getD_cons_zero] at h
  refine (h.append_right _).trans ?_
  rw [List.append_assoc, List.append_assoc]
  exact List.Perm.append_left _ List.perm_append_comm
 | t :: ts, p + 1, hp, h => by
  rw [List.set_cons_succ, nodesL, nodesL, List.append_assoc]
  rw [List.getD_cons_succ] at h
  exact List.Perm.append_left _ (nodesL_set t' ts p (by simpa using hp) h)
theorem deepL_set (t' : S27) : ∀ (ks : List S27) (p : Nat), deepL (ks.set p t') ≤ max (deepL ks) (deep t')
 | [], p => by rw [List.set_nil]; omega
 | t :: ts, 0 => by rw [List.set_cons_zero, deepL, deepL]; omega
 | t :: ts, p + 1 => by rw [List.set_cons_succ, deepL, deepL]; have := deepL_set t' ts p; omega
theorem getD_deep {ks : List S27} {p : Nat} (hp : p < ks.length) : deep (ks.getD p z27) ≤ deepL ks := deep_mem (getD_mem hp z27)
theorem deep_eq (t : S27) : deep t = 1 + deepL t.f2 := by cases t; rw [deep]
theorem nodes_eq (t : S27) : nodes t = (t.f0, t.f1) :: nodesL t.f2 := by cases t; rw [nodes]
theorem kid_deep (n : ByteArray) (m : List ByteArray) : deepL [(⟨n, m, []⟩ : S27)] = 1 := by simp only [deepL, deep]; rfl
theorem kid_nodes (n : ByteArray) (m : List ByteArray) : nodesL [(⟨n, m, []⟩ : S27)] = [(n, m)] := by simp [nodesL, nodes]
theorem Kids.root {i : Nat} {ks : List S27} (h : Kids i ks) (c : Nat) : Kids (i + 1) (ks ++ [⟨nm (i + 1), ms (i + 1) c, []⟩]) := by
 obtain ⟨h1, L, h2, h3⟩ := h
 refine ⟨by rw [deepL_append, kid_deep]; omega, _, .more c h2, ?_⟩
 rw [nodesL_append, kid_nodes]
 exact h3.append_right _
theorem Kids.at1 {i : Nat} {ks : List S27} (h : Kids i ks) (c p : Nat) (hp : p < ks.length) : Kids (i + 1) (ks.set p ⟨(ks.getD p z27).f0, (ks.getD p z27).f1, (ks.getD p z27).f2 ++ [⟨nm (i + 1), ms (i + 1) c, []⟩]⟩) := by
 obtain ⟨h1, L, h2, h3⟩ := h
 have hd := getD_deep hp
 rw [deep_eq] at hd
 refine ⟨?_, _, .more c h2, ?_⟩
 ·refine Int.le_trans (deepL_set _ _ _) ?_
  rw [deep, deepL_append, kid_deep]
  have := deepL_ge (ks.getD p z27).f2
  omega
 ·refine (nodesL_set (X := [(nm (i + 1), ms (i + 1) c)]) _ ks p hp ?_).trans (h3.append_right _)
  rw [nodes, nodesL_append, kid_nodes, nodes_eq (ks.getD p z27)]
  exact List.Perm.refl _
theorem Kids.at2 {i : Nat} {ks : List S27} (h : Kids i ks) (c p q : Nat) (hp : p < ks.length) (hq : q < (ks.getD p z27).f2.length) :
 Kids (i + 1) (ks.set p ⟨(ks.getD p z27).f0, (ks.getD p z27).f1, (ks.getD p z27).f2.set q ⟨((ks.getD p z27).f2.getD q z27).f0, ((ks.getD p z27).f2.getD q z27).f1, ((ks.getD p z27).f2.getD q z27).f2 ++ [⟨nm (i + 1), ms (i + 1) c, []⟩]⟩⟩) := by
 obtain ⟨h1, L, h2, h3⟩ := h
 have hd := getD_deep hp
 rw [deep_eq] at hd
 have hd2 := getD_deep hq
 rw [deep_eq] at hd2
 refine ⟨?_, _, .more c h2, ?_⟩
 ·refine Int.le_trans (deepL_set _ _ _) ?_
  rw [deep]
  have h5 := deepL_set ⟨((ks.getD p z27).f2.getD q z27).f0, ((ks.getD p z27).f2.getD q z27).f1, ((ks.getD p z27).f2.getD q z27).f2 ++ [⟨nm (i + 1), ms (i + 1) c, []⟩]⟩ (ks.getD p z27).f2 q
  rw [deep, deepL_append, kid_deep] at h5
  have := deepL_ge (ks.getD p z27).f2
  omega
 ·refine (nodesL_set (X := [(nm (i + 1), ms (i + 1) c)]) _ ks p hp ?_).trans (h3.append_right _)
  rw [nodes, nodes_eq (ks.getD p z27), List.cons_append]
  refine List.Perm.cons _ (nodesL_set _ _ q hq ?_)
  rw [nodes, nodesL_append, kid_nodes, nodes_eq ((ks.getD p z27).f2.getD q z27)]
  exact List.Perm.refl _
def rootN : ByteArray := ⟨#[114, 111, 111, 116]⟩
def m0N : ByteArray := ⟨#[109, 48]⟩
theorem Kids.len {i : Nat} {ks : List S27} (h : Kids i ks) : (nodesL ks).length = i := by
 obtain ⟨_, L, h2, h3⟩ := h
 rw [h3.length_eq, h2.facts.1]
section
variable {l : List Int} (hl : l.length ≤ 1048576)
abbrev Res := ByteArray × List ByteArray × List S27 × Int × Int
theorem draw_mod (i j : Nat) (hi : 1 ≤ i) (hi6 : i ≤ 6) (hj : 1 ≤ j) (hj2 : j ≤ 2) {p c : Int} {ks : List S27} {n : ByteArray} {acc : List ByteArray} (ha : acc.length ≤ 10) {v : Res}
 (h : Ev (fun k => spec_l22Draw.l1 k NL (i : Int) ((j - 1 : Nat) : Int) l p c rootN [m0N] ks n (acc ++ [md i j])) v) :
 Ev (fun k => spec_l22Draw.l1 k NL (i : Int) (j : Int) l p c rootN [m0N] ks n acc) v := by
 refine Ev.next ?_
 unfold spec_l22Draw.l1
 refine Ev.pos (by omega) (Ev.bind (oct_ev i hi (by omega)) (Ev.pos (by show 1 + 1 ≤ 9223372036854775807; decide) (Ev.bind (oct_ev j hj (by omega)) (Ev.pos ?_ (Ev.pos (by omega) ?_)))))
 ·rw [ByteArray.size_append]; show 1 + 1 + 1 ≤ 9223372036854775807; decide
 rw [wid (n := (j : Int) - 1) (by omega) (by omega), show (j : Int) - 1 = ((j - 1 : Nat) : Int) by omega]
 exact h
theorem draw_mods (i c : Nat) (hi : 1 ≤ i) (hi6 : i ≤ 6) (hc : c ≤ 2) {p x : Int} {ks : List S27} {n : ByteArray} {v : Res}
 (h : Ev (fun k => spec_l22Draw.l1 k NL (i : Int) 0 l p x rootN [m0N] ks n (ms i c)) v) :
 Ev (fun k => spec_l22Draw.l1 k NL (i : Int) (c : Int) l p x rootN [m0N] ks n []) v := by
 have : c = 0 ∨ c = 1 ∨ c = 2 := by omega
 rcases this with rfl | rfl | rfl
 ·exact h
 ·exact draw_mod i 1 hi hi6 (by omega) (by omega) (by simp) h
 ·exact draw_mod i 2 hi hi6 (by omega) (by omega) (by simp) (draw_mod i 1 hi hi6 (by omega) (by omega) (by simp) h)
include hl
theorem draw_loop : ∀ (m i : Nat), i + m = 6 → ∀ (ks : List S27) (p c : Int), Kids i ks → At l p → ∃ ks' p' c' i', i' ≤ 6 ∧ Kids i' ks' ∧ At l p' ∧ Ev (fun k => spec_l22Draw.l0 k NL ((i + 1 : Nat) : Int) l p c rootN [m0N] ks) (rootN, [m0N], ks', p', c') := by
 intro m
 induction m with
 | zero =>
  intro i he ks p c hk hp
  obtain ⟨v, p1, c1, e1, v0, v1, hp1⟩ := below_ev l hl 6 (by omega) (by omega) (c := c) hp
  refine ⟨ks, p1, c1, i, by omega, hk, hp1, Ev.next ?_⟩
  unfold spec_l22Draw.l0
  rw [e1]
  refine Ev.bind (Ev.ok _) ?_
  rw [wid (n := 2 + v) (by omega) (by omega)]
  exact Ev.neg (by omega) (Ev.ok _)
 | succ m ih =>
  intro i he ks p c hk hp
  obtain ⟨v, p1, c1, e1, v0, v1, hp1⟩ := below_ev l hl 6 (by omega) (by omega) (c := c) hp
  by_cases hv : ((i + 1 : Nat) : Int) < 2 + v
  case neg =>
   refine ⟨ks, p1, c1, i, by omega, hk, hp1, Ev.next ?_⟩
   unfold spec_l22Draw.l0
   rw [e1]
   refine Ev.bind (Ev.ok _) ?_
   rw [wid (n := 2 + v) (by omega) (by omega)]
   exact Ev.neg hv (Ev.ok _)
  obtain ⟨c2, p2, x2, e2, c0, c3, hp2⟩ := below_ev l hl 3 (by omega) (by omega) (c := c1) hp1
  obtain ⟨cn, rfl⟩ : ∃ cn : Nat, c2 = cn := ⟨c2.toNat, by omega⟩
  have hlen := hk.len
  have hkl := kids_le ks
  have htm : Int.tmod ((i + 1 : Nat) : Int) 7 = ((i + 1 : Nat) : Int) := by rw [Int.tmod_eq_emod_of_nonneg (by omega)]; omega
  -- from here on: the kid i + 1 with its mods
  have key : ∀ ks2 p3 x3, Kids (i + 1) ks2 → At l p3 → (∀ v : Res, Ev (fun k => spec_l22Draw.l0 k NL ((i + 1 + 1 : Nat) : Int) l p3 x3 rootN [m0N] ks2) v → Ev (fun k => spec_l22Draw.l1 k NL ((i + 1 : Nat) : Int) 0 l p2 x2 rootN [m0N] ks (nm (i + 1)) (ms (i + 1) cn)) v) →
   ∃ ks' p' c' i', i' ≤ 6 ∧ Kids i' ks' ∧ At l p' ∧ Ev (fun k => spec_l22Draw.l0 k NL ((i + 1 : Nat) : Int) l p c rootN [m0N] ks) (rootN, [m0N], ks', p', c') := by
   intro ks2 p3 x3 hk2 hp3 hstep
   obtain ⟨ks', p', c', i', h1, h2, h3, h4⟩ := ih (i + 1) (by omega) ks2 p3 x3 hk2 hp3
   refine ⟨ks', p', c', i', h1, h2, h3, Ev.next ?_⟩
   unfold spec_l22Draw.l0
   rw [e1]
   refine Ev.bind (Ev.ok _) ?_
   rw [wid (n := 2 + v) (by omega) (by omega), htm]
   refine Ev.pos hv (Ev.pos (by omega) (Ev.pos (by show ((i + 1 : Nat) : Int) < 7; omega) ?_))
   rw [e2]
   exact Ev.bind (Ev.ok _) (draw_mods (i + 1) cn (by omega) (by omega) (by omega) (hstep _ h4))
  have hwi : wrap64 (((i + 1 : Nat) : Int) + 1) = ((i + 1 + 1 : Nat) : Int) := wi (by omega)
  by_cases hks : (ks.length : Int) > 0
  case neg =>
   refine key (ks ++ [⟨nm (i + 1), ms (i + 1) cn, []⟩]) p2 x2 (hk.root cn) hp2 fun v h => ?_
   refine Ev.next ?_
   unfold spec_l22Draw.l1
   rw [hwi]
   exact Ev.neg (by omega) (Ev.neg hks (Ev.pos (by omega) h))
  obtain ⟨b, p3, x3, e3, hp3⟩ := once_ev l hl 2 (by omega) (by omega) (c := x2) hp2
  by_cases hb : b = true
  case neg =>
   refine key (ks ++ [⟨nm (i + 1), ms (i + 1) cn, []⟩]) p3 x3 (hk.root cn) hp3 fun v h => ?_
   refine Ev.next ?_
   unfold spec_l22Draw.l1
   rw [hwi, e3]
   exact Ev.neg (by omega) (Ev.pos hks (Ev.bind (Ev.ok _) (Ev.neg hb (Ev.pos (by omega) h))))
  obtain ⟨a, p4, x4, e4, a0, a1, hp4⟩ := below_ev l hl (ks.length : Int) (by omega) (by omega) (c := x3) hp3
  obtain ⟨an, rfl⟩ : ∃ an : Nat, a = an := ⟨a.toNat, by omega⟩
  have han : an < ks.length := by omega
  have hmem := getD_mem han z27
  have hn1 := nodesL_len hmem
  rw [nodes_eq, List.length_cons] at hn1
  have hk1 := kids_le (ks.getD an z27).f2
  by_cases hk2 : (((ks.getD an z27).f2).length : Int) > 0
  case neg =>
   refine key _ p4 x4 (hk.at1 cn an han) hp4 fun v h => ?_
   refine Ev.next ?_
   unfold spec_l22Draw.l1
   rw [hwi, e3]
   refine Ev.neg (by omega) (Ev.pos hks (Ev.bind (Ev.ok _) (Ev.pos hb ?_)))
   rw [e4]
   refine Ev.bind (Ev.ok _) (Ev.pos (by omega) (Ev.pos (by omega) ?_))
   rw [rd27, Int.toNat_natCast]
   exact Ev.neg hk2 (Ev.pos (by omega) h)
  obtain ⟨b5, p5, x5, e5, hp5⟩ := once_ev l hl 3 (by omega) (by omega) (c := x4) hp4
  by_cases hb5 : b5 = true
  case neg =>
   refine key _ p5 x5 (hk.at1 cn an han) hp5 fun v h => ?_
   refine Ev.next ?_
   unfold spec_l22Draw.l1
   rw [hwi, e3]
   refine Ev.neg (by omega) (Ev.pos hks (Ev.bind (Ev.ok _) (Ev.pos hb ?_)))
   rw [e4]
   refine Ev.bind (Ev.ok _) (Ev.pos (by omega) (Ev.pos (by omega) ?_))
   rw [rd27, Int.toNat_natCast, e5]
   exact Ev.pos hk2 (Ev.bind (Ev.ok _) (Ev.neg hb5 (Ev.pos (by omega) h)))
  obtain ⟨d, p6, x6, e6, d0, d1, hp6⟩ := below_ev l hl (((ks.getD an z27).f2).length : Int) (by omega) (by omega) (c := x5) hp5
  obtain ⟨dn, rfl⟩ : ∃ dn : Nat, d = dn := ⟨d.toNat, by omega⟩
  have hdn : dn < (ks.getD an z27).f2.length := by omega
  have hn2 := nodesL_len (getD_mem hdn z27)
  rw [nodes_eq, List.length_cons] at hn2
  have hk3 := kids_le ((ks.getD an z27).f2.getD dn z27).f2
  refine key _ p6 x6 (hk.at2 cn an dn han hdn) hp6 fun v h => ?_
  refine Ev.next ?_
  unfold spec_l22Draw.l1
  rw [hwi, e3]
  refine Ev.neg (by omega) (Ev.pos hks (Ev.bind (Ev.ok _) (Ev.pos hb ?_)))
  rw [e4]
  refine Ev.bind (Ev.ok _) (Ev.pos (by omega) (Ev.pos (by omega) ?_))
  rw [rd27, Int.toNat_natCast, e5]
  refine Ev.pos hk2 (Ev.bind (Ev.ok _) (Ev.pos hb5 ?_))
  rw [e6]
  refine Ev.bind (Ev.ok _) (Ev.pos (by omega) (Ev.pos (by omega) ?_))
  rw [rd27, Int.toNat_natCast]
  exact Ev.pos (by omega) h
theorem draw_ev {p c : Int} (hp : At l p) : ∃ ks' p' c', (∃ i, i ≤ 6 ∧ Kids i ks') ∧ At l p' ∧ Ev (fun k => spec_l22Draw.f k l p c) (rootN, [m0N], ks', p', c') := by
 obtain ⟨ks', p', c', i', h1, h2, h3, h4⟩ := draw_loop hl 6 0 (by omega) [] p c ⟨by rw [deepL]; omega, [], .none, List.Perm.refl _⟩ hp
 refine ⟨ks', p', c', ⟨i', h1, h2⟩, h3, ?_⟩
 unfold spec_l22Draw.f
 exact Ev.bind (Ev.ok NL) (Ev.pos (by decide) h4)
def Sized (n : Nat) (ns : List ByteArray) (ws : List Int) : Prop := ns.length = n ∧ ws.length = n ∧ ∀ x ∈ ws, 0 ≤ x ∧ x ≤ 300
theorem size_step (n i j : Nat) (hi : 1 ≤ i) (hi7 : i ≤ 7) (hj : 1 ≤ j) (hj2 : j ≤ 2) (hn : n ≤ 100) {ns ws} (hs : Sized n ns ws) {p c : Int} (hp : At l p) :
 ∃ w p' c', Sized (n + 1) (ns ++ [md i j]) (ws ++ [w]) ∧ At l p' ∧ ∀ v, Ev (fun k => spec_l23Sizes.l1 k (ns ++ [md i j]) (ws ++ [w]) (i : Int) ((j + 1 : Nat) : Int) l p' c') v → Ev (fun k => spec_l23Sizes.l1 k ns ws (i : Int) (j : Int) l p c) v := by
 obtain ⟨s1, s2, s3⟩ := hs
 obtain ⟨a, p', c', e, a0, a1, hp'⟩ := below_ev l hl 5 (by omega) (by omega) (c := c) hp
 obtain ⟨an, rfl⟩ : ∃ an : Nat, a = an := ⟨a.toNat, by omega⟩
 have hm := getD_mem (xs := ([0, 1, 5, 20, 300] : List Int)) (i := an) (by simp; omega) 0
 have hb : ∀ x ∈ ([0, 1, 5, 20, 300] : List Int), 0 ≤ x ∧ x ≤ 300 := by decide
 refine ⟨rd [0, 1, 5, 20, 300] an, p', c', ⟨by simp [s1], by simp [s2], fun x hx => ?_⟩, hp', fun v h => Ev.next ?_⟩
 ·rcases List.mem_append.1 hx with hx | hx
  ·exact s3 x hx
  ·rw [List.mem_singleton.1 hx]; exact hb _ hm
 ·unfold spec_l23Sizes.l1
  refine Ev.pos (by omega) (Ev.bind (oct_ev i hi (by omega)) (Ev.pos (by show 1 + 1 ≤ 9223372036854775807; decide) (Ev.bind (oct_ev j hj (by omega)) (Ev.pos ?_ (Ev.pos (by omega) ?_)))))
  ·rw [ByteArray.size_append]; show 1 + 1 + 1 ≤ 9223372036854775807; decide
  have e' : spec_l1Int.f l p c [0, 1, 5, 20, 300] = some (rd [0, 1, 5, 20, 300] an, p', c') := by
   unfold spec_l1Int.f
   rw [show ((([0, 1, 5, 20, 300] : List Int).length : Int)) = 5 from rfl, e, Option.bind_some, if_pos (by omega), if_pos (by omega)]
  rw [e', wi (by omega)]
  exact Ev.bind (Ev.ok _) (Ev.pos (by omega) h)
theorem size_loop : ∀ (m i : Nat), i + m = 8 → 1 ≤ i → ∀ n ns ws (p c : Int), n + 2 * m ≤ 50 → Sized n ns ws → At l p → ∃ n' ns' ws' p' c', Sized n' ns' ws' ∧ n' ≤ 50 ∧ n ≤ n' ∧ At l p' ∧ Ev (fun k => spec_l23Sizes.l0 k ns ws (i : Int) l p c) (ns', ws', p', c') := by
 intro m
 induction m with
 | zero =>
  intro i he hi n ns ws p c hn hs hp
  refine ⟨n, ns, ws, p, c, hs, by omega, by omega, hp, Ev.next ?_⟩
  unfold spec_l23Sizes.l0
  exact Ev.neg (by omega) (Ev.ok _)
 | succ m ih =>
  intro i he hi n ns ws p c hn hs hp
  obtain ⟨w1, p1, c1, hs1, hp1, k1⟩ := size_step hl n i 1 hi (by omega) (by omega) (by omega) (by omega) hs (c := c) hp
  obtain ⟨w2, p2, c2, hs2, hp2, k2⟩ := size_step hl (n + 1) i 2 hi (by omega) (by omega) (by omega) (by omega) hs1 (c := c1) hp1
  obtain ⟨n', ns', ws', p', c', hs', hn', hn2, hp', h⟩ := ih (i + 1) (by omega) (by omega) _ _ _ p2 c2 (by omega) hs2 hp2
  refine ⟨n', ns', ws', p', c', hs', hn', by omega, hp', Ev.next ?_⟩
  unfold spec_l23Sizes.l0
  refine Ev.pos (by omega) (k1 _ (k2 _ (Ev.next ?_)))
  unfold spec_l23Sizes.l1
  rw [wi (i := i) (by omega)]
  exact Ev.neg (by omega) h
theorem sizes_draw {p c : Int} (hp : At l p) : ∃ n ns ws p' c', Sized n ns ws ∧ n ≤ 50 ∧ 1 ≤ n ∧ At l p' ∧ Ev (fun k => spec_l23Sizes.f k l p c) (ns, ws, p', c') := by
 obtain ⟨v, p1, c1, e1, v0, v1, hp1⟩ := below_ev l hl 50 (by omega) (by omega) (c := c) hp
 obtain ⟨n', ns', ws', p', c', hs', hn', hn2, hp', h⟩ := size_loop hl 7 1 (by omega) (by omega) 1 [m0N] [v] p1 c1 (by omega) ⟨rfl, rfl, fun x hx => by rw [List.mem_singleton.1 hx]; omega⟩ hp1
 refine ⟨n', ns', ws', p', c', hs', hn', hn2, hp', ?_⟩
 unfold spec_l23Sizes.f
 rw [e1]
 exact Ev.bind (Ev.ok _) h
end
end Go.Proofs.Ytdphpmejjlgpnaa.Pt
