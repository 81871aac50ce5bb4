import Derived.ArgAppend
import Derived.Below
import Derived.BigQuiet
import Derived.Deep.AppendLies
import Derived.Deep.CutBlock
import Derived.Deep.DeepCutAuto
import Derived.Deep.Draws
import Derived.Deep.LoopGhost
import Derived.Deep.OwnRows
import Derived.Deep.QuietTactic
import Derived.Deep.RegionHeld3
import Derived.KernelRfl
import Derived.Laws.BitsLemmas
import Derived.Laws.BytesArg
import Derived.Laws.IdiomCopy
import Derived.Laws.MakeOwn
import Derived.Laws.OwnMore
import Derived.Laws.Rows
import Derived.Laws.Slices
import Derived.Lib.AppendStr
import Derived.Lib.ConvBytes
import Derived.Lib.Hide
import Derived.Lib.OwnBridge
import Derived.Maps.AppendAt
import Derived.OrdersHeld
import Derived.OwnWalk
import Derived.RowKit
import Derived.RowKit3
import Derived.Sort.Grow
import Derived.Sort.OwnSorted
import Derived.Tactics
import Derived.Test.YtdphpmejjlgpnaaProg
import Derived.Test.YtdphpmejjlgpnaaShelf
import Derived.Test.YtdphpmejjlgpnaaWApart
import Derived.Test.YtdphpmejjlgpnaaWArr
import Derived.Test.YtdphpmejjlgpnaaWAt
import Derived.Test.YtdphpmejjlgpnaaWEqStruct
import Derived.Test.YtdphpmejjlgpnaaWFoot
import Derived.Test.YtdphpmejjlgpnaaWFootNe
import Derived.Test.YtdphpmejjlgpnaaWFour
import Derived.Test.YtdphpmejjlgpnaaWGuard
import Derived.Test.YtdphpmejjlgpnaaWInv
import Derived.Test.YtdphpmejjlgpnaaWInvWords
import Derived.Test.YtdphpmejjlgpnaaWKept
import Derived.Test.YtdphpmejjlgpnaaWLast
import Derived.Test.YtdphpmejjlgpnaaWMore
import Derived.Test.YtdphpmejjlgpnaaWN
import Derived.Test.YtdphpmejjlgpnaaWNEv
import Derived.Test.YtdphpmejjlgpnaaWQPut
import Derived.Test.YtdphpmejjlgpnaaWRepsOne
import Derived.Test.YtdphpmejjlgpnaaWShare
import Derived.Test.YtdphpmejjlgpnaaWTab
import Derived.Test.YtdphpmejjlgpnaaWWords
import Derived.Test.YtdphpmejjlgpnaaWZeros
import Derived.WalkKit
import Derived.WideLaws
/-! Short forms of steps that many proofs of these texts have alike; lemmas 'zN' stand for proof blocks that come again and again (their default proof runs where they are used). -/
namespace Go.Proofs.Ytdphpmejjlgpnaa.PFnLaidOver
open Go.RowKit Go.Proofs.YtdphpmejjlgpnaaW.PrintWords Go.Proofs.YtdphpmejjlgpnaaW.PrintLast Go.Proofs.YtdphpmejjlgpnaaW.PrintMore
def bz (n m : Nat) : Array Bool := ((List.range n).map fun i => m.testBit i).toArray
theorem bz_zero (n : Nat) : Array.replicate n false = bz n 0 := by
  apply Array.ext'
  unfold bz
  rw [Array.toList_replicate]
  exact (List.eq_replicate_iff.2 ⟨by rw [List.length_map, List.length_range], fun b hb => by obtain ⟨i, _, rfl⟩ := List.mem_map.1 hb; exact Nat.zero_testBit i⟩).symm
structure Go (is : List Nat) (p q : Prop) : Prop where mk :: (out : q → p)
theorem Go.nil {p : Prop} : Go [] p p := ⟨id⟩
section
variable {P : Program} {md : Region.Mode} {ops : Array Oper} {Q : Exit → Act → World → Prop} {S : World → Prop} {ds : List Nat} {is : List Nat} {q : Prop} {n m : Nat}
theorem Go.pz {i : Nat} {N : Nat} {oi : Oper} {v : Value} {fuel : Nat} {a a' : Act} {w : World} (h : Go is (wpAnyLast P md ops Q S ds fuel (bz n (m + 2 ^ i)) a' w) q)
    (hi : ops[i]? = some oi := by exact rfl) (hN : oi.dst = some N := by exact rfl) (hy : Yields P ops oi v a := by exact Or.inl ⟨by rfl, by intro w'; go_simp; with_reducible rfl⟩)
    (hc : anyB md ops (bz n m) (bz n (m + 2 ^ i)) i = true := by first | exact any_of HT_.out (by kernel_rfl) | kernel_rfl)
    (hQ : ∀ c a w, Q (.panic c) (a.put oi.dst v) w → Q (.panic c) a w := by exact fun _ _ _ h => h) (ha : a.put (some N) v = a' := by simp only [Act.put, List.setIfInBounds_toArray, List.set_cons_zero, List.set_cons_succ, i64_w, i32_w]; rfl) : Go (i :: is) (wpAnyLast P md ops Q S ds (fuel + 1) (bz n m) a w) q :=
  ⟨fun hq => pure_ _ hi hN hc hQ hy ha (h.out hq)⟩
theorem Go.pu {i : Nat} {N : Nat} {oi : Oper} {fuel : Nat} {a a' : Act} {w : World} (h : Go is (wpAnyLast P md ops Q S ds fuel (bz n (m + 2 ^ i)) a' w) q)
    (hi : ops[i]? = some oi := by exact rfl) (hN : oi.dst = some N := by exact rfl) (hy : Yields P ops oi undef a := by exact Or.inr ⟨by rfl, rfl⟩)
    (hc : anyB md ops (bz n m) (bz n (m + 2 ^ i)) i = true := by first | exact any_of HT_.out (by kernel_rfl) | kernel_rfl)
    (hQ : ∀ c a w, Q (.panic c) (a.put oi.dst undef) w → Q (.panic c) a w := by exact fun _ _ _ h => h) (ha : a.put (some N) undef = a' := by simp only [Act.put, List.setIfInBounds_toArray, List.set_cons_zero, List.set_cons_succ, i64_w, i32_w]; rfl) : Go ((i + 2000) :: is) (wpAnyLast P md ops Q S ds (fuel + 1) (bz n m) a w) q :=
  ⟨fun hq => pure_ _ hi hN hc hQ hy ha (h.out hq)⟩
theorem Go.tz {i : Nat} {N : Nat} {oi : Oper} {v : Value} {fuel : Nat} {a a' : Act} {w : World} (hS : S w) (h : Go is (wpAnyLast P md ops Q S ds fuel (bz n (m + 2 ^ i)) a' w) q)
    (hi : ops[i]? = some oi := by exact rfl) (hN : oi.dst = some N := by exact rfl) (hy : YieldsIf P ops S oi v a := by exact Or.inl ⟨by rfl, by intro w' hs; (repeat (have s_ := And.left hs; replace hs := And.right hs)); go_simp; with_reducible rfl⟩)
    (hc : takeB md ops ds (bz n m) (bz n (m + 2 ^ i)) i = true := by first | exact take_ofW HT_.out HW_.out (by kernel_rfl) | exact take_of HT_.out (by kernel_rfl) | kernel_rfl)
    (hQ : ∀ c a w, Q (.panic c) (a.put oi.dst v) w → Q (.panic c) a w := by exact fun _ _ _ h => h) (ha : a.put (some N) v = a' := by simp only [Act.put, List.setIfInBounds_toArray, List.set_cons_zero, List.set_cons_succ, i64_w, i32_w]; rfl) : Go ((i + 1000) :: is) (wpAnyLast P md ops Q S ds (fuel + 1) (bz n m) a w) q :=
  ⟨fun hq => take_ _ hi hN hc hQ hy hS ha (h.out hq)⟩
theorem st_ {id : Nat} {a : Act} {w : World} (n : Nat) (S : World → Prop) (ds : List Nat) (hS : S w.drew) (h : S w.drew → wpAnyLast P .any ops Q S ds n (bz n 0) a w.drew)
    (hm : P.follows .mixedOrders = true := by kernel_rfl) (hn : ops.size = n := by exact rfl) : (Code.region id ops true).wp P Q a w :=
  start_ _ hm hn (bz_zero n) hS h
theorem on_ (i N : Nat) {oi : Oper} {fuel : Nat} {a : Act} {w : World}
    (h : ∀ K : Act → World → Prop, Shut (∀ a' w', S w' → (S w' → wpAnyLast P md ops Q S ds fuel (bz n (m + 2 ^ i)) a' w') → K a' w') → if Region.wanted oi (yielded ops a.tmps) = true then Oper.wp P oi a w K Q else K (a.put (some N) undef) w)
    (hi : ops[i]? = some oi := by exact rfl) (hN : oi.dst = some N := by exact rfl) (hc : readyB md ops (bz n m) (bz n (m + 2 ^ i)) i = true := by first | exact one_of HT_.out (by kernel_rfl) | kernel_rfl) (hd : i ∉ ds := by decide) :
    wpAnyLast P md ops Q S ds (fuel + 1) (bz n m) a w := one_ _ hi hN hc hd h
theorem nm_ {fuel : Nat} {l : Array Bool} {a a' : Act} {w : World} (h : wpAnyLast P md ops Q S ds fuel l a' w) (ha : a = a' := by (show Act.put _ (some _) _ = _); simp only [Act.put, List.setIfInBounds_toArray, List.set_cons_zero, List.set_cons_succ, i64_w, i32_w]; rfl) : wpAnyLast P md ops Q S ds fuel l a w := norm_ ha h
theorem gs_ {oi : Oper} {N : Option Tmp} {a : Act} {w : World} {K : Act → World → Prop} {f : FuncId} {fn : Func} {ags : Array Operand} {ts : Array TypeId} (hf : P.funcs[f]? = some fn) (args : Array Value)
    (h : Calls P f args w fun e w' => ∃ v, e = .returned v ∧ K (a.put N v) w') (hname : (fn.name == "runtime.NumGoroutine") = false := by kernel_rfl) (hb : fn.body.isSome = true := by exact rfl)
    (hw : Region.wanted oi (yielded ops a.tmps) = true := by rfl) (hN : oi.dst = N := by exact rfl) (hop : oi.op = .call { callee := .value (.func f), args := ags, argTypes := ts } := by exact rfl)
    (hargs : ags.map a.eval = args := by (try simp only [List.map_toArray, List.map_cons, List.map_nil]); first | done | rfl | (simp only [List.length_drop, List.length_take]; rfl)) : if Region.wanted oi (yielded ops a.tmps) = true then Oper.wp P oi a w K Q else K (a.put N undef) w :=
  goes_ hf hname hb args hw hN hop hargs h
theorem gl_ {rest : List Oper} {oi : Oper} {a : Act} {w : World} (N : Nat) {f : FuncId} {fn : Func} {ags : Array Operand} {ts : Array TypeId} (hf : P.funcs[f]? = some fn) (args : Array Value)
    (h : Calls P f args w fun e w' => ∃ v, e = .returned v ∧ wpList P ops Q rest (a.put (some N) v) w') (hd : oi.dst = some N := by exact rfl) (hg : oi.guard = none := by exact rfl)
    (hname : (fn.name == "runtime.NumGoroutine") = false := by kernel_rfl) (hb : fn.body.isSome = true := by exact rfl) (hop : oi.op = .call { callee := .value (.func f), args := ags, argTypes := ts } := by exact rfl)
    (hargs : ags.map a.eval = args := by (try simp only [List.map_toArray, List.map_cons, List.map_nil]); first | done | rfl | (simp only [List.length_drop, List.length_take]; rfl)) : wpList P ops Q (oi :: rest) a w :=
  goesL_ _ hd hg hf hname hb args hop hargs h
end
theorem go_ {p : Prop} (q : Prop) (is : List Nat) (h : q) (g : Go is p q := by repeat (first | exact Go.nil | refine Go.pz ?_ | refine Go.tz hHeld ?_ | refine Go.pu ?_)) : p := g.out h
theorem z_1 {p : Prop} (h : p := by first | rfl | (simp; done) | (simp [*]; done)) : p := h
theorem z_2 {p : Prop} (h : p := by repeat (first | exact Drawn0.refl _ | apply Drawn0.step)) : p := h
theorem z_3 {p : Prop} (h : p := by first | rfl | (simp; done) | (simp [*]; done) | (simp [nil_bne]; done)) : p := h
theorem z_4 {p q1 : Prop} (y_1 : q1) (g : q1 → p := by intro y_1; repeat (first | (with_reducible first | exact y_1 | apply below_alloc | apply pw_below_drewN | apply below_drew1) | exact y_1)) : p := g y_1
theorem z_5 {p : Prop} (h : p := by first | (with_reducible assumption) | assumption) : p := h
theorem z_6 {p q1 : Prop} (y_1 : q1) (g : q1 → p := by intro y_1; rw [hg]; exact (below_size (by repeat (first | (with_reducible first | exact y_1 | apply below_alloc | apply pw_below_drewN | apply below_drew1) | exact y_1)))) : p := g y_1
theorem z_7 {p q1 : Prop} (y_1 : q1) (g : q1 → p := by intro y_1; (with_reducible repeat (first | refine blk_drewN ?_ _ | refine blk_drew ?_ | refine blk_alloc ?_ _)); exact y_1) : p := g y_1
theorem z_8 {p q1 q2 : Prop} (y_1 : q1) (y_2 : q2) (g : q1 → q2 → p := by intro y_1 y_2; repeat (first | (with_reducible first | exact y_1 | apply below_alloc | apply pw_below_drewN | apply below_drew1 | refine below_set ?_ y_2) | exact y_1)) : p := g y_1 y_2
theorem z_9 {p : Prop} (h : p := by first | rfl | (simp [errW_none, errW_some] <;> rfl) | (simp [*, errW_none, errW_some] <;> rfl)) : p := h
theorem z_10 {p q1 : Prop} (y_1 : q1) (g : q1 → p := by intro y_1; repeat (first | (with_reducible first | exact y_1 | apply IsS63.alloc | apply IsS63.drewN | apply IsS63.drew | apply IsS63.set_1 | apply IsS63.set_2) | exact y_1)) : p := g y_1
theorem z_11 {p q1 q2 : Prop} (y_1 : q1) (y_2 : q2) (g : q1 → q2 → p := by intro y_1 y_2; repeat (first | (with_reducible first | exact y_1 | apply below_alloc | apply pw_below_drewN | apply below_drew1 | refine below_set ?_ (IsS63.ge y_2)) | exact y_1)) : p := g y_1 y_2
theorem z_12 {p q1 : Prop} (y_1 : q1) (g : q1 → p := by intro y_1; repeat (first | (with_reducible first | exact y_1 | apply KeepBut.set_ | apply keep_drewN | apply keep_drew | apply keep_alloc) | exact y_1)) : p := g y_1
theorem z_13 {p q1 : Prop} (y_1 : q1) (g : q1 → p := by intro y_1; rw [hg]; exact (keep_size (w := w) (g := g) (row := none) (by repeat (first | (with_reducible first | exact y_1 | apply KeepBut.set_ | apply keep_drewN | apply keep_drew | apply keep_alloc) | exact y_1)))) : p := g y_1
theorem z_14 {p q1 q2 : Prop} (y_1 : q1) (y_2 : q2) (g : q1 → q2 → p := by intro y_1 y_2; repeat (first | (with_reducible first | exact y_1 | apply KeepBut.set_ | apply keep_drewN | apply keep_drew | apply keep_alloc | refine keep_far ?_ y_2 _) | exact y_1)) : p := g y_1 y_2
theorem z_15 {p q1 q2 : Prop} (y_1 : q1) (y_2 : q2) (g : q1 → q2 → p := by intro y_1 y_2; repeat (first | (with_reducible first | exact y_1 | apply IsS63.alloc | apply IsS63.drewN | apply IsS63.drew | apply IsS63.set_1 | apply IsS63.set_2 | refine IsS63.far ?_ y_2 _) | exact y_1)) : p := g y_1 y_2
theorem z_16 {p q1 q2 q3 : Prop} (y_1 : q1) (y_2 : q2) (y_3 : q3) (g : q1 → q2 → q3 → p := by intro y_1 y_2 y_3; repeat (first | (with_reducible first | exact y_1 | apply below_alloc | apply pw_below_drewN | apply below_drew1 | refine below_set ?_ (IsS63.ge y_2) | refine below_set ?_ y_3) | exact y_1)) : p := g y_1 y_2 y_3
theorem z_17 {p q1 : Prop} (y_1 : q1) (g : q1 → p := by intro y_1; (with_reducible repeat (first | apply Kd.R_alloc | apply Kd.R_drewN | apply Kd.R_drew)); exact y_1) : p := g y_1
theorem z_18 {p q1 q2 : Prop} (y_1 : q1) (y_2 : q2) (g : q1 → q2 → p := by intro y_1 y_2; rw [hg]; exact (keep_size (w := w) (g := g) (row := none) (by repeat (first | (with_reducible first | exact y_1 | apply KeepBut.set_ | apply keep_drewN | apply keep_drew | apply keep_alloc | refine keep_far ?_ y_2 _) | exact y_1)))) : p := g y_1 y_2
theorem z_19 {p q1 : Prop} (y_1 : q1) (g : q1 → p := by intro y_1; rw [hg]; exact Nat.ne_of_lt (blk_lt (g := gb127) (o := .cells #[.string (⟨#[]⟩ : ByteArray), .slice none 0 0, .slice none 0 0] 27 (0, 0)) (by (with_reducible repeat (first | refine blk_drewN ?_ _ | refine blk_drew ?_ | refine blk_alloc ?_ _)); exact y_1))) : p := g y_1
theorem z_20 {p q1 : Prop} (y_1 : q1) (g : q1 → p := by intro y_1; rw [hg]; exact Nat.ne_of_gt (blk_lt (g := gb127) (o := .cells #[.string (⟨#[]⟩ : ByteArray), .slice none 0 0, .slice none 0 0] 27 (0, 0)) (by (with_reducible repeat (first | refine blk_drewN ?_ _ | refine blk_drew ?_ | refine blk_alloc ?_ _)); exact y_1))) : p := g y_1
theorem z_21 {p q1 q2 : Prop} (y_1 : q1) (y_2 : q2) (g : q1 → q2 → p := by intro y_1 y_2; (with_reducible repeat (first | apply Kd.R_alloc | apply Kd.R_drewN | apply Kd.R_drew)); exact Kd.R_mono (Kd.R_far (p := ⟨gb135, 2, none⟩) (Kd.R_far (p := ⟨gb135, 1, none⟩) (Kd.R_far (p := ⟨gb135, 0, none⟩) (Kd.R_types y_1 y_2 (by decide)) (fun _ hk => hk.2) (.string (rdOf ByteArray.empty y128 0))) (fun _ hk => hk.2) (.slice Ao9 y132.length co9)) (fun _ hk => hk.2) (.slice none 0 0)) (fun _ hk => hk.1.2)) : p := g y_1 y_2
theorem z_22 {p q1 q2 : Prop} (y_1 : q1) (y_2 : q2) (g : q1 → q2 → p := by intro y_1 y_2; (with_reducible repeat (first | refine blk_drewN ?_ _ | refine blk_drew ?_ | refine blk_alloc ?_ _)); refine blk_far ?_ y_1 _; (with_reducible repeat (first | refine blk_drewN ?_ _ | refine blk_drew ?_ | refine blk_alloc ?_ _)); refine blk_far ?_ y_1 _; (with_reducible repeat (first | refine blk_drewN ?_ _ | refine blk_drew ?_ | refine blk_alloc ?_ _)); refine blk_far ?_ y_1 _; (with_reducible repeat (first | refine blk_drewN ?_ _ | refine blk_drew ?_ | refine blk_alloc ?_ _)); exact y_2) : p := g y_1 y_2
theorem z_23 {p q1 : Prop} (y_1 : q1) (g : q1 → p := by intro y_1; (with_reducible repeat (first | refine blk_drewN ?_ _ | refine blk_drew ?_ | refine blk_alloc ?_ _)); refine blk_put (cs := #[.string (rdOf ByteArray.empty y128 0), .slice Ao9 y132.length co9, .slice none 0 0]) ?_ 2 _ rfl; (with_reducible repeat (first | refine blk_drewN ?_ _ | refine blk_drew ?_ | refine blk_alloc ?_ _)); refine blk_put (cs := #[.string (rdOf ByteArray.empty y128 0), .slice none 0 0, .slice none 0 0]) ?_ 1 _ rfl; (with_reducible repeat (first | refine blk_drewN ?_ _ | refine blk_drew ?_ | refine blk_alloc ?_ _)); refine blk_put (cs := #[.string (⟨#[]⟩ : ByteArray), .slice none 0 0, .slice none 0 0]) ?_ 0 _ rfl; (with_reducible repeat (first | refine blk_drewN ?_ _ | refine blk_drew ?_ | refine blk_alloc ?_ _)); exact y_1) : p := g y_1
theorem z_24 {p q1 q2 q3 : Prop} (y_1 : q1) (y_2 : q2) (y_3 : q3) (g : q1 → q2 → q3 → p := by intro y_1 y_2 y_3; repeat (first | (with_reducible first | exact y_1 | apply IsS63.alloc | apply IsS63.drewN | apply IsS63.drew | apply IsS63.set_1 | apply IsS63.set_2 | refine IsS63.far ?_ y_2 _ | refine IsS63.far ?_ y_3 _) | exact y_1)) : p := g y_1 y_2 y_3
theorem z_25 {p q1 q2 q3 : Prop} (y_1 : q1) (y_2 : q2) (y_3 : q3) (g : q1 → q2 → q3 → p := by intro y_1 y_2 y_3; repeat (first | (with_reducible first | exact y_1 | apply KeepBut.set_ | apply keep_drewN | apply keep_drew | apply keep_alloc | refine keep_far ?_ y_2 _ | refine keep_far ?_ y_3 _) | exact y_1)) : p := g y_1 y_2 y_3
theorem z_26 {p q1 q2 q3 q4 : Prop} (y_1 : q1) (y_2 : q2) (y_3 : q3) (y_4 : q4) (g : q1 → q2 → q3 → q4 → p := by intro y_1 y_2 y_3 y_4; repeat (first | (with_reducible first | exact y_1 | apply below_alloc | apply pw_below_drewN | apply below_drew1 | refine below_set ?_ (IsS63.ge y_2) | refine below_set ?_ y_3 | refine below_set ?_ y_4) | exact y_1)) : p := g y_1 y_2 y_3 y_4
theorem z_27 {p q1 : Prop} (y_1 : q1) (g : q1 → p := by intro y_1; (with_reducible repeat (first | apply Kd.S_alloc | apply Kd.S_drewN | apply Kd.S_drew)); exact y_1) : p := g y_1
theorem z_28 {p q1 q2 q3 : Prop} (y_1 : q1) (y_2 : q2) (y_3 : q3) (g : q1 → q2 → q3 → p := by intro y_1 y_2 y_3; rw [hg]; exact (keep_size (w := w) (g := g) (row := none) (by repeat (first | (with_reducible first | exact y_1 | apply KeepBut.set_ | apply keep_drewN | apply keep_drew | apply keep_alloc | refine keep_far ?_ y_2 _ | refine keep_far ?_ y_3 _) | exact y_1)))) : p := g y_1 y_2 y_3
theorem z_29 {p q1 q2 q3 q4 : Prop} (y_1 : q1) (y_2 : q2) (y_3 : q3) (y_4 : q4) (g : q1 → q2 → q3 → q4 → p := by intro y_1 y_2 y_3 y_4; repeat (first | (with_reducible first | exact y_1 | apply IsS63.alloc | apply IsS63.drewN | apply IsS63.drew | apply IsS63.set_1 | apply IsS63.set_2 | refine IsS63.far ?_ y_2 _ | refine IsS63.far ?_ y_3 _ | refine IsS63.far ?_ y_4 _) | exact y_1)) : p := g y_1 y_2 y_3 y_4
theorem z_30 {p q1 q2 q3 q4 q5 : Prop} (y_1 : q1) (y_2 : q2) (y_3 : q3) (y_4 : q4) (y_5 : q5) (g : q1 → q2 → q3 → q4 → q5 → p := by intro y_1 y_2 y_3 y_4 y_5; repeat (first | (with_reducible first | exact y_1 | apply below_alloc | apply pw_below_drewN | apply below_drew1 | refine below_set ?_ (IsS63.ge y_2) | refine below_set ?_ y_3 | refine below_set ?_ y_4 | refine below_set ?_ y_5) | exact y_1)) : p := g y_1 y_2 y_3 y_4 y_5
theorem z_31 {p q1 q2 : Prop} (y_1 : q1) (y_2 : q2) (g : q1 → q2 → p := by intro y_1 y_2; (with_reducible repeat (first | apply Kd.R_alloc | apply Kd.R_drewN | apply Kd.R_drew)); exact (Kd.R_mono (Kd.R_far (p := ⟨gb140, 2, none⟩) (Kd.R_far (p := ⟨gb140, 1, none⟩) (Kd.R_far (p := ⟨gb140, 0, none⟩) (Kd.R_types y_1 y_2 (by decide)) (fun _ hk => hk.2) (.string (rdOf ByteArray.empty y128 (ji16)))) (fun _ hk => hk.2) (.slice none 0 0)) (fun _ hk => hk.2) (.slice none 0 0)) (fun _ h_ => h_.1))) : p := g y_1 y_2
theorem z_32 {p q1 q2 q3 q4 : Prop} (y_1 : q1) (y_2 : q2) (y_3 : q3) (y_4 : q4) (g : q1 → q2 → q3 → q4 → p := by intro y_1 y_2 y_3 y_4; repeat (first | (with_reducible first | exact y_1 | apply KeepBut.set_ | apply keep_drewN | apply keep_drew | apply keep_alloc | refine keep_far ?_ y_2 _ | refine keep_far ?_ y_3 _ | refine keep_far ?_ y_4 _) | exact y_1)) : p := g y_1 y_2 y_3 y_4
theorem z_33 {p q1 : Prop} (y_1 : q1) (g : q1 → p := by intro y_1; (with_reducible repeat (first | apply Kd.R_alloc | apply Kd.R_drewN | apply Kd.R_drew)); exact Kd.R_mono y_1 (fun _ hk => ⟨hk, (by simp [Value.ownBlock])⟩)) : p := g y_1
theorem z_34 {p : Prop} (h : p := by simp [Value.ownBlock]) : p := h
theorem z_35 {p : Prop} (h : p := by first | exact Kd.R_nil _ _ _ _ _ | exact Kd.N_nil _ _ _ _ _ | exact Kd.V_nil _ _ _ _ _ | exact Kd.Q_nil _ _ _ _ _ | exact Kd.S_nil _ _ _ _ _) : p := h
theorem z_36 {p q1 q2 : Prop} (y_1 : q1) (y_2 : q2) (g : q1 → q2 → p := by intro y_1 y_2; have := y_1; have := y_2; omega) : p := g y_1 y_2
theorem z_37 {p q1 q2 : Prop} (y_1 : q1) (y_2 : q2) (g : q1 → q2 → p := by intro y_1 y_2; (with_reducible repeat (first | apply Kd.R_alloc | apply Kd.R_drewN | apply Kd.R_drew)); exact Kd.R_mono (Kd.R_far (p := ⟨gb140, 1, none⟩) (Kd.R_types y_1 y_2 (by decide)) (fun _ hk => hk.2) (.slice Ao37 y146.length co37)) (fun _ hk => ⟨hk.1.1, hk.1.2⟩)) : p := g y_1 y_2
theorem z_38 {p q1 q2 : Prop} (y_1 : q1) (y_2 : q2) (g : q1 → q2 → p := by intro y_1 y_2; (with_reducible repeat (first | refine blk_drewN ?_ _ | refine blk_drew ?_ | refine blk_alloc ?_ _)); refine blk_far ?_ y_1 _; (with_reducible repeat (first | refine blk_drewN ?_ _ | refine blk_drew ?_ | refine blk_alloc ?_ _)); exact y_2) : p := g y_1 y_2
theorem z_39 {p q1 : Prop} (y_1 : q1) (g : q1 → p := by intro y_1; first | exact q155 | exact of_decide_eq_true (by first | (with_reducible assumption) | assumption) | (have e_ := (Kd.S_reads' y_1).1; omega)) : p := g y_1
theorem z_40 {p q1 q2 : Prop} (y_1 : q1) (y_2 : q2) (g : q1 → q2 → p := by intro y_1 y_2; first | (rw [add_block]; exact Kd.own_blk (IsS63.own_neS y_1 y_2 (by decide))) | (show (Addr.add _ _).block ≠ _; rw [add_block]; exact Kd.own_blk (IsS63.own_neS y_1 y_2 (by decide))) | exact Kd.own_blk (IsS63.own_neS y_1 y_2 (by decide))) : p := g y_1 y_2
theorem z_41 {p : Prop} (h : p := by rw [← h_]; exact hk.symm) : p := h
theorem z_42 {p : Prop} (h : p := by rw [hRl]; exact Nat.le_refl _) : p := h
theorem z_43 {p : Prop} (h : p := by show 2 + 1 ≤ 3; decide) : p := h
theorem z_44 {p q1 : Prop} (y_1 : q1) (g : q1 → p := by intro y_1; (with_reducible repeat (first | apply Kd.S_alloc | apply Kd.S_drewN | apply Kd.S_drew)); exact Kd.S_mono y_1 (fun k_ hk => ⟨⟨hk.1, ⟨hk.2.1, ⟨hk.2.2.2.1, ⟨hk.2.2.2.2.1, hk.2.2.2.2.2⟩⟩⟩⟩, fun e_ => hk.2.2.1 e_⟩)) : p := g y_1
theorem z_45 {p q1 q2 : Prop} (y_1 : q1) (y_2 : q2) (g : q1 → q2 → p := by intro y_1 y_2; (with_reducible repeat (first | apply Kd.R_alloc | apply Kd.R_drewN | apply Kd.R_drew)); exact Kd.R_mono (Kd.R_far (p := ⟨gb135, 2, none⟩) (Kd.R_types y_1 y_2 (by decide)) (fun _ hk => hk.2) (.slice Ao92 y163.length co92)) (fun _ hk => hk.1.1)) : p := g y_1 y_2
theorem z_46 {p q1 q2 : Prop} (y_1 : q1) (y_2 : q2) (g : q1 → q2 → p := by intro y_1 y_2; (with_reducible repeat (first | apply Kd.R_alloc | apply Kd.R_drewN | apply Kd.R_drew)); exact Kd.R_mono (Kd.R_far (p := ⟨gb135, 2, none⟩) (Kd.R_types y_1 y_2 (by decide)) (fun _ hk => hk.2) (.slice Ao105 y166.length co105)) (fun _ hk => hk.1.1)) : p := g y_1 y_2
theorem z_47 {p q1 : Prop} (y_1 : q1) (g : q1 → p := by intro y_1; repeat (first | exact (Kd.R_reads' y_1).2.2 | (with_reducible refine Kd.C_alloc ?_ _) | (with_reducible refine Kd.C_drewN ?_ _) | (with_reducible refine Kd.C_drew ?_))) : p := g y_1
theorem z_48 {p q1 : Prop} (y_1 : q1) (g : q1 → p := by intro y_1; (with_reducible repeat (first | apply Kd.R_alloc | apply Kd.R_drewN | apply Kd.R_drew)); exact Kd.R_mono y_1 (fun _ hk => hk.2)) : p := g y_1
theorem z_49 {p q1 : Prop} (y_1 : q1) (g : q1 → p := by intro y_1; (with_reducible repeat (first | apply Kd.R_alloc | apply Kd.R_drewN | apply Kd.R_drew)); exact Kd.R_mono y_1 (fun _ hk => trivial)) : p := g y_1
theorem z_50 {p q1 q2 q3 : Prop} (y_1 : q1) (y_2 : q2) (y_3 : q3) (g : q1 → q2 → q3 → p := by intro y_1 y_2 y_3; rw [hg]; exact (below_size (by repeat (first | (with_reducible first | exact y_1 | apply below_alloc | apply pw_below_drewN | apply below_drew1 | refine below_set ?_ (IsS63.ge y_2) | refine below_set ?_ y_3) | exact y_1)))) : p := g y_1 y_2 y_3
theorem z_51 {p q1 q2 : Prop} (y_1 : q1) (y_2 : q2) (g : q1 → q2 → p := by intro y_1 y_2; (with_reducible repeat (first | apply Kd.R_alloc | apply Kd.R_drewN | apply Kd.R_drew)); exact (Kd.R_mono (Kd.R_far (p := ⟨gb168, 2, none⟩) (Kd.R_far (p := ⟨gb168, 1, none⟩) (Kd.R_far (p := ⟨gb168, 0, none⟩) (Kd.R_types y_1 y_2 (by decide)) (fun _ hk => hk.2) (.string t159)) (fun _ hk => hk.2) (.slice Ao12 t160.length co12)) (fun _ hk => hk.2) (.slice Ao13 t163.length co13)) (fun _ h_ => h_.1))) : p := g y_1 y_2
theorem z_52 {p q1 : Prop} (y_1 : q1) (g : q1 → p := by intro y_1; (with_reducible repeat (first | refine blk_drewN ?_ _ | refine blk_drew ?_ | refine blk_alloc ?_ _)); refine blk_put (cs := #[.string t159, .slice Ao12 t160.length co12, .slice none 0 0]) ?_ 2 _ rfl; (with_reducible repeat (first | refine blk_drewN ?_ _ | refine blk_drew ?_ | refine blk_alloc ?_ _)); refine blk_put (cs := #[.string t159, .slice none 0 0, .slice none 0 0]) ?_ 1 _ rfl; (with_reducible repeat (first | refine blk_drewN ?_ _ | refine blk_drew ?_ | refine blk_alloc ?_ _)); refine blk_put (cs := #[.string (⟨#[]⟩ : ByteArray), .slice none 0 0, .slice none 0 0]) ?_ 0 _ rfl; (with_reducible repeat (first | refine blk_drewN ?_ _ | refine blk_drew ?_ | refine blk_alloc ?_ _)); exact y_1) : p := g y_1
theorem z_53 {p q1 q2 : Prop} (y_1 : q1) (y_2 : q2) (g : q1 → q2 → p := by intro y_1 y_2; (with_reducible repeat (first | apply Kd.R_alloc | apply Kd.R_drewN | apply Kd.R_drew)); exact Kd.R_mono (Kd.R_far (p := ⟨gb154, 2, none⟩) (Kd.R_far (p := ⟨gb154, 1, none⟩) (Kd.R_far (p := ⟨gb154, 0, none⟩) (Kd.R_types y_1 y_2 (by decide)) (fun _ hk => hk.2) (.string t159)) (fun _ hk => hk.2) (.slice Ao12 t160.length co12)) (fun _ hk => hk.2) (.slice Ao13 t163.length co13)) (fun _ hk => hk.1.2)) : p := g y_1 y_2
theorem z_54 {p q1 q2 : Prop} (y_1 : q1) (y_2 : q2) (g : q1 → q2 → p := by intro y_1 y_2; rw [hg]; exact (below_size (by repeat (first | (with_reducible first | exact y_1 | apply below_alloc | apply pw_below_drewN | apply below_drew1 | refine below_set ?_ y_2) | exact y_1)))) : p := g y_1 y_2
theorem z_55 {p q1 q2 q3 : Prop} (y_1 : q1) (y_2 : q2) (y_3 : q3) (g : q1 → q2 → q3 → p := by intro y_1 y_2 y_3; repeat (first | (with_reducible first | exact y_1 | apply below_alloc | apply pw_below_drewN | apply below_drew1 | refine below_set ?_ y_2 | refine below_set ?_ y_3) | exact y_1)) : p := g y_1 y_2 y_3
theorem z_56 {p q1 q2 : Prop} (y_1 : q1) (y_2 : q2) (g : q1 → q2 → p := by intro y_1 y_2; (with_reducible repeat (first | apply Kd.R_alloc | apply Kd.R_drewN | apply Kd.R_drew)); exact (Kd.R_mono (Kd.R_far (p := ⟨gb182, 2, none⟩) (Kd.R_far (p := ⟨gb182, 1, none⟩) (Kd.R_far (p := ⟨gb182, 0, none⟩) (Kd.R_types y_1 y_2 (by decide)) (fun _ hk => hk.2) (.string ((rd_T27 l0_2 x12_1).f0))) (fun _ hk => hk.2) (.slice A181_1 ((rd_T27 l0_2 x12_1).f1).length c181_1)) (fun _ hk => hk.2) (.slice A181_2 ((rd_T27 l0_2 x12_1).f2).length c181_2)) (fun _ h_ => h_.1))) : p := g y_1 y_2
theorem z_57 {p : Prop} (h : p := by first | omega | exact Nat.le_refl _) : p := h
theorem z_58 {p q1 : Prop} (y_1 : q1) (g : q1 → p := by intro y_1; rw [hg]; exact Nat.ne_of_lt (blk_lt (g := gb213) (o := .cells #[.string a0_0, .slice A0_1 l0_1.length c0_1, .slice (some ad217) l0_2.length c0_2] 27 (0, 0)) (by (with_reducible repeat (first | refine blk_drewN ?_ _ | refine blk_drew ?_ | refine blk_alloc ?_ _)); exact y_1))) : p := g y_1
theorem z_59 {p q1 : Prop} (y_1 : q1) (g : q1 → p := by intro y_1; rw [hg]; exact Nat.ne_of_gt (blk_lt (g := gb213) (o := .cells #[.string a0_0, .slice A0_1 l0_1.length c0_1, .slice (some ad217) l0_2.length c0_2] 27 (0, 0)) (by (with_reducible repeat (first | refine blk_drewN ?_ _ | refine blk_drew ?_ | refine blk_alloc ?_ _)); exact y_1))) : p := g y_1
theorem z_60 {p q1 q2 q3 : Prop} (y_1 : q1) (y_2 : q2) (y_3 : q3) (g : q1 → q2 → q3 → p := by intro y_1 y_2 y_3; have := y_1; have := y_2; have := y_3; omega) : p := g y_1 y_2 y_3
theorem z_61 {p q1 : Prop} (y_1 : q1) (g : q1 → p := by intro y_1; (with_reducible repeat (first | refine blk_drewN ?_ _ | refine blk_drew ?_ | refine blk_alloc ?_ _)); refine blk_put (cs := #[.string ((rd_T27 l0_2 x43_3).f0), .slice A217_1 ((rd_T27 l0_2 x43_3).f1).length c217_1, .slice none 0 0]) ?_ 2 _ rfl; (with_reducible repeat (first | refine blk_drewN ?_ _ | refine blk_drew ?_ | refine blk_alloc ?_ _)); refine blk_put (cs := #[.string ((rd_T27 l0_2 x43_3).f0), .slice none 0 0, .slice none 0 0]) ?_ 1 _ rfl; (with_reducible repeat (first | refine blk_drewN ?_ _ | refine blk_drew ?_ | refine blk_alloc ?_ _)); refine blk_put (cs := #[.string (⟨#[]⟩ : ByteArray), .slice none 0 0, .slice none 0 0]) ?_ 0 _ rfl; (with_reducible repeat (first | refine blk_drewN ?_ _ | refine blk_drew ?_ | refine blk_alloc ?_ _)); exact y_1) : p := g y_1
theorem z_62 {p q1 q2 : Prop} (y_1 : q1) (y_2 : q2) (g : q1 → q2 → p := by intro y_1 y_2; repeat (first | exact (Kd.C_below y_1 y_2) | (with_reducible refine Kd.C_alloc ?_ _) | (with_reducible refine Kd.C_drewN ?_ _) | (with_reducible refine Kd.C_drew ?_))) : p := g y_1 y_2
theorem z_63 {p q1 q2 : Prop} (y_1 : q1) (y_2 : q2) (g : q1 → q2 → p := by intro y_1 y_2; (with_reducible repeat (first | apply Kd.R_alloc | apply Kd.R_drewN | apply Kd.R_drew)); exact (Kd.R_mono (Kd.R_far (p := ⟨gb231, 2, none⟩) (Kd.R_far (p := ⟨gb231, 1, none⟩) (Kd.R_far (p := ⟨gb231, 0, none⟩) (Kd.R_types y_1 y_2 (by decide)) (fun _ hk => hk.2) (.string ((rd_T27 l0_2 x12_1).f0))) (fun _ hk => hk.2) (.slice A230_1 ((rd_T27 l0_2 x12_1).f1).length c230_1)) (fun _ hk => hk.2) (.slice A230_2 ((rd_T27 l0_2 x12_1).f2).length c230_2)) (fun _ h_ => h_.1))) : p := g y_1 y_2
theorem z_64 {p q1 q2 : Prop} (y_1 : q1) (y_2 : q2) (g : q1 → q2 → p := by intro y_1 y_2; (with_reducible repeat (first | apply Kd.R_alloc | apply Kd.R_drewN | apply Kd.R_drew)); exact (Kd.R_mono (Kd.R_far (p := ⟨gb262, 2, none⟩) (Kd.R_far (p := ⟨gb262, 1, none⟩) (Kd.R_far (p := ⟨gb262, 0, none⟩) (Kd.R_types y_1 y_2 (by decide)) (fun _ hk => hk.2) (.string ((rd_T27 l0_2 x29_1).f0))) (fun _ hk => hk.2) (.slice A261_1 ((rd_T27 l0_2 x29_1).f1).length c261_1)) (fun _ hk => hk.2) (.slice A261_2 ((rd_T27 l0_2 x29_1).f2).length c261_2)) (fun _ h_ => h_.1))) : p := g y_1 y_2
theorem z_65 {p q1 : Prop} (y_1 : q1) (g : q1 → p := by intro y_1; rw [hg]; exact Nat.ne_of_lt (blk_lt (g := gb269) (o := .cells #[.string a0_0, .slice A0_1 l0_1.length c0_1, .slice A0_2 l0_2.length c0_2] 27 (0, 0)) (by (with_reducible repeat (first | refine blk_drewN ?_ _ | refine blk_drew ?_ | refine blk_alloc ?_ _)); exact y_1))) : p := g y_1
theorem z_66 {p q1 : Prop} (y_1 : q1) (g : q1 → p := by intro y_1; rw [hg]; exact Nat.ne_of_gt (blk_lt (g := gb269) (o := .cells #[.string a0_0, .slice A0_1 l0_1.length c0_1, .slice A0_2 l0_2.length c0_2] 27 (0, 0)) (by (with_reducible repeat (first | refine blk_drewN ?_ _ | refine blk_drew ?_ | refine blk_alloc ?_ _)); exact y_1))) : p := g y_1
theorem z_67 {p q1 : Prop} (y_1 : q1) (g : q1 → p := by intro y_1; (with_reducible repeat (first | apply Kd.R_alloc | apply Kd.R_drewN | apply Kd.R_drew)); exact Kd.R_mono (Kd.R_far (p := ⟨gb278, 2, none⟩) (Kd.R_far (p := ⟨gb278, 1, none⟩) (Kd.R_far (p := ⟨gb278, 0, none⟩) (Kd.R_mono y_1 (fun k_ hk => (⟨hk, hk.2⟩ : _ ∧ k_ ≠ gb278))) (fun _ hk => hk.2) (.string ((rd_T38 t274 x52_3).f0))) (fun _ hk => hk.2) (.int .i64 ((rd_T38 t274 x52_3).f1))) (fun _ hk => hk.2) (.int .i64 ((rd_T38 t274 x52_3).f2))) (fun _ hk => trivial)) : p := g y_1
theorem z_68 {p q1 q2 : Prop} (y_1 : q1) (y_2 : q2) (g : q1 → q2 → p := by intro y_1 y_2; (with_reducible repeat (first | apply Kd.R_alloc | apply Kd.R_drewN | apply Kd.R_drew)); exact (Kd.R_mono (Kd.R_far (p := ⟨gb293, 2, none⟩) (Kd.R_far (p := ⟨gb293, 1, none⟩) (Kd.R_far (p := ⟨gb293, 0, none⟩) (Kd.R_types y_1 y_2 (by decide)) (fun _ hk => hk.2) (.string ((rd_T27 l0_2 x10_1).f0))) (fun _ hk => hk.2) (.slice A292_1 ((rd_T27 l0_2 x10_1).f1).length c292_1)) (fun _ hk => hk.2) (.slice A292_2 ((rd_T27 l0_2 x10_1).f2).length c292_2)) (fun _ h_ => h_.1))) : p := g y_1 y_2
theorem z_69 {p q1 : Prop} (y_1 : q1) (g : q1 → p := by intro y_1; repeat (first | exact y_1 | (with_reducible refine Kd.C_alloc ?_ _) | (with_reducible refine Kd.C_drewN ?_ _) | (with_reducible refine Kd.C_drew ?_))) : p := g y_1
theorem z_70 {p q1 q2 : Prop} (y_1 : q1) (y_2 : q2) (g : q1 → q2 → p := by intro y_1 y_2; (with_reducible repeat (first | apply Kd.R_alloc | apply Kd.R_drewN | apply Kd.R_drew)); exact (Kd.R_mono (Kd.R_far (p := ⟨gb353, 2, none⟩) (Kd.R_far (p := ⟨gb353, 1, none⟩) (Kd.R_far (p := ⟨gb353, 0, none⟩) (Kd.R_types y_1 y_2 (by decide)) (fun _ hk => hk.2) (.string t340)) (fun _ hk => hk.2) (.slice Ao10 t341.length co10)) (fun _ hk => hk.2) (.slice Ao11 t344.length co11)) (fun _ h_ => h_.1))) : p := g y_1 y_2
theorem z_71 {p q1 : Prop} (y_1 : q1) (g : q1 → p := by intro y_1; (with_reducible repeat (first | apply Kd.R_alloc | apply Kd.R_drewN | apply Kd.R_drew)); exact (Kd.R_mono (Kd.R_far (p := ⟨gb353, 2, none⟩) (Kd.R_far (p := ⟨gb353, 1, none⟩) (Kd.R_far (p := ⟨gb353, 0, none⟩) (Kd.R_mono y_1 (fun k_ hk => (⟨hk, hk.2⟩ : _ ∧ k_ ≠ gb353))) (fun _ hk => hk.2) (.string t340)) (fun _ hk => hk.2) (.slice Ao10 t341.length co10)) (fun _ hk => hk.2) (.slice Ao11 t344.length co11)) (fun _ h_ => h_.1))) : p := g y_1
theorem z_72 {p q1 : Prop} (y_1 : q1) (g : q1 → p := by intro y_1; (with_reducible repeat (first | apply Kd.R_alloc | apply Kd.R_drewN | apply Kd.R_drew)); exact Kd.R_mono y_1 (fun _ hk => hk.1.1)) : p := g y_1
theorem z_73 {p q1 : Prop} (y_1 : q1) (g : q1 → p := by intro y_1; (with_reducible repeat (first | apply Kd.R_alloc | apply Kd.R_drewN | apply Kd.R_drew)); exact Kd.R_mono y_1 (fun _ hk => ⟨hk.1.1.1.2, ⟨hk.1.1.1.1, hk.1.1.2⟩⟩)) : p := g y_1
theorem z_74 {p q1 q2 q3 q4 q5 : Prop} (y_1 : q1) (y_2 : q2) (y_3 : q3) (y_4 : q4) (y_5 : q5) (g : q1 → q2 → q3 → q4 → q5 → p := by intro y_1 y_2 y_3 y_4 y_5; have := y_1; have := y_2; have := y_3; have := y_4; have := y_5; omega) : p := g y_1 y_2 y_3 y_4 y_5
end Go.Proofs.Ytdphpmejjlgpnaa.PFnLaidOver
