import Derived.Test.YtdphpmejjlgpnaaLPvD
namespace Go.Proofs.Ytdphpmejjlgpnaa.Pv
open Go.RowKit Go.Proofs.Ytdphpmejjlgpnaa.PFnLaidOver Go.Proofs.YtdphpmejjlgpnaaW.PrintWords Go.Proofs.YtdphpmejjlgpnaaW.PrintLast
/-! ### what is drawn from -/
theorem and255 (x : Int) : 0 ≤ Go.bits .and .i64 x 255 ∧ Go.bits .and .i64 x 255 ≤ 255 := by
  have h : (BitVec.ofInt IntKind.i64.bits x &&& BitVec.ofInt IntKind.i64.bits 255).toNat ≤ 255 := by
    rw [BitVec.toNat_and]
    exact Nat.le_trans Nat.and_le_right (by decide)
  simp only [Go.bits]
  generalize (BitVec.ofInt IntKind.i64.bits x &&& BitVec.ofInt IntKind.i64.bits 255).toNat = n at h
  rw [i64_w, wid (by omega) (by omega)]
  omega
section
variable (l : List Int)
/-- A cursor. -/
def At (p : Int) : Prop := 0 ≤ p ∧ p ≤ l.length
theorem byte_ev (hl : l.length ≤ 1048576) {p c : Int} (h : At l p) : ∃ v p' c', spec_l1Byte.f l p c = some (v, p', c') ∧ 0 ≤ v ∧ v ≤ 255 ∧ At l p' := by
  obtain ⟨h0, h1⟩ := h
  unfold spec_l1Byte.f
  split
  · refine ⟨_, _, _, rfl, (and255 _).1, (and255 _).2, ?_⟩
    rw [wid (n := p + 1) (by omega) (by omega)]
    exact ⟨by omega, by omega⟩
  · exact ⟨_, _, _, rfl, (and255 _).1, (and255 _).2, h0, h1⟩
theorem below_ev (hl : l.length ≤ 1048576) (n : Int) (hn : 1 ≤ n) (hn2 : n ≤ 256) {p c : Int} (h : At l p) : ∃ v p' c', spec_l1Below.f l p c n = some (v, p', c') ∧ 0 ≤ v ∧ v < n ∧ At l p' := by
  obtain ⟨v, p', c', e, h0, h1, h2⟩ := byte_ev l hl (c := c) h
  unfold spec_l1Below.f
  rw [if_neg (by omega), if_pos hn2, e, Option.bind_some, if_neg (by omega)]
  refine ⟨_, _, _, rfl, ?_, ?_, h2⟩
  · rw [Int.tmod_eq_emod_of_nonneg h0]; exact Int.emod_nonneg _ (by omega)
  · rw [Int.tmod_eq_emod_of_nonneg h0]; exact Int.emod_lt_of_pos _ (by omega)
theorem once_ev (hl : l.length ≤ 1048576) (n : Int) (hn : 1 ≤ n) (hn2 : n ≤ 256) {p c : Int} (h : At l p) : ∃ v p' c', spec_l1Once.f l p c n = some (v, p', c') ∧ At l p' := by
  obtain ⟨v, p', c', e, _, _, h2⟩ := below_ev l hl n hn hn2 (c := c) h
  unfold spec_l1Once.f
  rw [e]
  exact ⟨_, _, _, rfl, h2⟩
theorem new_ev (hl : l.length ≤ 1048576) : ∃ c, Ev (fun k => spec_l1New.f k l) (l, 0, c) := by
  have h : ∀ (m i : Nat) (x : Int), i + m = 4000 → ∃ c, Ev (fun k => spec_l1New.l0 k l x (i : Int)) (l, 0, c) := by
    intro m
    induction m with
    | zero =>
      intro i x he
      refine ⟨x, Ev.next ?_⟩
      unfold spec_l1New.l0
      exact Ev.ite (fun _ => Ev.neg (by omega) (Ev.ok _)) (fun _ => Ev.ok _)
    | succ m ih =>
      intro i x he
      by_cases hi : (i : Int) < (l.length : Int)
      · obtain ⟨c, hc⟩ := ih (i + 1) (Go.bits .and .i64 (wrap64 ((wrap64 ((wrap64 (x * 137)) + (wrap64 (rd l i)))) + 11)) 1073741823) (by omega)
        refine ⟨c, Ev.next ?_⟩
        unfold spec_l1New.l0
        rw [wi (by omega)]
        exact Ev.pos hi (Ev.pos (by omega) (Ev.pos (by omega) hc))
      · refine ⟨x, Ev.next ?_⟩
        unfold spec_l1New.l0
        exact Ev.neg hi (Ev.ok _)
  unfold spec_l1New.f
  exact h 4000 0 _ (by omega)
end
/-! ### names -/
def NL : List ByteArray := [⟨#[114, 111, 111, 116]⟩, ⟨#[97]⟩, ⟨#[98]⟩, ⟨#[100]⟩, ⟨#[101]⟩, ⟨#[102]⟩, ⟨#[120]⟩]
def nm (i : Nat) : ByteArray := NL.getD i ByteArray.empty
def od (i : Nat) : ByteArray := ⟨#[(48 + i).toUInt8]⟩
def md (i j : Nat) : ByteArray := ((⟨#[110]⟩ : ByteArray) ++ od i) ++ od j
theorem oct_ev (i : Nat) (h1 : 1 ≤ i) (h7 : i ≤ 7) : Ev (fun k => spec_Oct.f k (i : Int)) (od i) := by
  have : i = 1 ∨ i = 2 ∨ i = 3 ∨ i = 4 ∨ i = 5 ∨ i = 6 ∨ i = 7 := by omega
  rcases this with rfl | rfl | rfl | rfl | rfl | rfl | rfl <;> exact Ev.mono (spec_Oct.mono _) 1 (by decide +kernel)
def AN : Nat → List ByteArray
  | 0 => []
  | n + 1 => AN n ++ [nm (n + 1)]
def AM : Nat → List ByteArray
  | 0 => []
  | n + 1 => AM n ++ [md (n + 1) 2, md (n + 1) 1]
theorem AN_sub {m n : Nat} (h : m ≤ n) : (AN m).Sublist (AN n) := by
  induction h with
  | refl => exact List.Sublist.refl _
  | step _ ih => exact ih.trans (List.sublist_append_left _ _)
theorem AM_sub {m n : Nat} (h : m ≤ n) : (AM m).Sublist (AM n) := by
  induction h with
  | refl => exact List.Sublist.refl _
  | step _ ih => exact ih.trans (List.sublist_append_left _ _)
theorem AN_nodup : ((⟨#[114, 111, 111, 116]⟩ :: AN 6).map fun s : ByteArray => s.data.toList).Nodup := by decide +kernel
theorem AM_nodup : ((⟨#[109, 48]⟩ :: AM 6).map fun s : ByteArray => s.data.toList).Nodup := by decide +kernel
theorem AN_ok : ((⟨#[114, 111, 111, 116]⟩ : ByteArray) :: AN 6).all (fun s => impl_isName.f 60 s == some true) = true := by decide +kernel
theorem AM_ok : ((⟨#[109, 48]⟩ : ByteArray) :: AM 6).all (fun s => impl_isName.f 60 s == some true) = true := by decide +kernel
theorem name_of {s : ByteArray} (h : (impl_isName.f 60 s == some true) = true) : Name s := Ev.mono (impl_isName.mono s) 60 (by simpa using h)
end Go.Proofs.Ytdphpmejjlgpnaa.Pv
