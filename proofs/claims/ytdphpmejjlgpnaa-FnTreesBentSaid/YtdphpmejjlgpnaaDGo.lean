import Derived.ArgAppend
import Derived.Below
import Derived.BigQuiet
import Derived.Deep.AppendLies
import Derived.Deep.CutBlock
import Derived.Deep.DeepCutAuto
import Derived.Deep.Draws
import Derived.Deep.LoopGhost
import Derived.Deep.OwnRows
import Derived.Deep.QuietTactic
import Derived.Deep.RegionHeld3
import Derived.KernelRfl
import Derived.Laws.BitsLemmas
import Derived.Laws.BytesArg
import Derived.Laws.IdiomCopy
import Derived.Laws.MakeOwn
import Derived.Laws.OwnMore
import Derived.Laws.Rows
import Derived.Laws.Slices
import Derived.Lib.AppendStr
import Derived.Lib.ConvBytes
import Derived.Lib.Hide
import Derived.Lib.OwnBridge
import Derived.Maps.AppendAt
import Derived.OrdersHeld
import Derived.OwnWalk
import Derived.RowKit
import Derived.RowKit3
import Derived.Sort.Grow
import Derived.Sort.OwnSorted
import Derived.Tactics
import Derived.Test.YtdphpmejjlgpnaaProg
import Derived.Test.YtdphpmejjlgpnaaShelf
import Derived.Test.YtdphpmejjlgpnaaV2
import Derived.Test.YtdphpmejjlgpnaaV7
import Derived.Test.YtdphpmejjlgpnaaV3
import Derived.Test.YtdphpmejjlgpnaaV9
import Derived.Test.YtdphpmejjlgpnaaV10
import Derived.Test.YtdphpmejjlgpnaaV4
import Derived.Test.YtdphpmejjlgpnaaV1
import Derived.Test.YtdphpmejjlgpnaaV12
import Derived.Test.YtdphpmejjlgpnaaV6
import Derived.Test.YtdphpmejjlgpnaaV11
import Derived.Test.YtdphpmejjlgpnaaV13
import Derived.Test.YtdphpmejjlgpnaaV5
import Derived.Test.YtdphpmejjlgpnaaV8
import Derived.Test.YtdphpmejjlgpnaaV0
import Derived.WalkKit
import Derived.WideLaws
set_option linter.unusedVariables false
set_option linter.unusedSimpArgs false
set_option linter.unusedSectionVars false
namespace Go.Proofs.Ytdphpmejjlgpnaa.Short
open Go.RowKit Go.Proofs.YtdphpmejjlgpnaaW.PrintWords Go.Proofs.YtdphpmejjlgpnaaW.PrintLast Go.Proofs.YtdphpmejjlgpnaaW.PrintMore
def bz (n m : Nat) : Array Bool := ((List.range n).map fun i => m.testBit i).toArray
theorem bz_zero (n : Nat) : Array.replicate n false = bz n 0 := by
 apply Array.ext'
 unfold bz
 rw [Array.toList_replicate]
 exact (List.eq_replicate_iff.2 ⟨by rw [List.length_map, List.length_range], fun b hb => by obtain ⟨i, _, rfl⟩ := List.mem_map.1 hb; exact Nat.zero_testBit i⟩).symm
structure Go (is : List Nat) (p q : Prop) : Prop where mk :: (out : q → p)
theorem Go.nil {p : Prop} : Go [] p p := ⟨id⟩
section
variable {P : Program} {md : Region.Mode} {ops : Array Oper} {Q : Exit → Act → World → Prop} {S : World → Prop} {ds : List Nat} {is : List Nat} {q : Prop} {n m : Nat}
theorem Go.pz {i : Nat} {N : Nat} {oi : Oper} {v : Value} {fuel : Nat} {a a' : Act} {w : World} (h : Go is (wpAnyLast P md ops Q S ds fuel (bz n (m + 2 ^ i)) a' w) q)
 (hi : ops[i]? = some oi := by exact rfl) (hN : oi.dst = some N := by exact rfl) (hy : Yields P ops oi v a := by exact Or.inl ⟨by rfl, by intro w'; go_simp; with_reducible rfl⟩)
 (hc : anyB md ops (bz n m) (bz n (m + 2 ^ i)) i = true := by first | exact any_of HT_.out (by kernel_rfl) | kernel_rfl)
 (hQ : ∀ c a w, Q (.panic c) (a.put oi.dst v) w → Q (.panic c) a w := by exact fun _ _ _ h => h) (ha : a.put (some N) v = a' := by simp only [Act.put, List.setIfInBounds_toArray, List.set_cons_zero, List.set_cons_succ, i64_w, i32_w]; rfl) : Go (i :: is) (wpAnyLast P md ops Q S ds (fuel + 1) (bz n m) a w) q :=
 ⟨fun hq => pure_ _ hi hN hc hQ hy ha (h.out hq)⟩
theorem Go.pu {i : Nat} {N : Nat} {oi : Oper} {fuel : Nat} {a a' : Act} {w : World} (h : Go is (wpAnyLast P md ops Q S ds fuel (bz n (m + 2 ^ i)) a' w) q)
 (hi : ops[i]? = some oi := by exact rfl) (hN : oi.dst = some N := by exact rfl) (hy : Yields P ops oi undef a := by exact Or.inr ⟨by rfl, rfl⟩)
 (hc : anyB md ops (bz n m) (bz n (m + 2 ^ i)) i = true := by first | exact any_of HT_.out (by kernel_rfl) | kernel_rfl)
 (hQ : ∀ c a w, Q (.panic c) (a.put oi.dst undef) w → Q (.panic c) a w := by exact fun _ _ _ h => h) (ha : a.put (some N) undef = a' := by simp only [Act.put, List.setIfInBounds_toArray, List.set_cons_zero, List.set_cons_succ, i64_w, i32_w]; rfl) : Go ((i + 2000) :: is) (wpAnyLast P md ops Q S ds (fuel + 1) (bz n m) a w) q :=
 ⟨fun hq => pure_ _ hi hN hc hQ hy ha (h.out hq)⟩
theorem Go.tz {i : Nat} {N : Nat} {oi : Oper} {v : Value} {fuel : Nat} {a a' : Act} {w : World} (hS : S w) (h : Go is (wpAnyLast P md ops Q S ds fuel (bz n (m + 2 ^ i)) a' w) q)
 (hi : ops[i]? = some oi := by exact rfl) (hN : oi.dst = some N := by exact rfl) (hy : YieldsIf P ops S oi v a := by exact Or.inl ⟨by rfl, by intro w' hs; (repeat (have s_ := And.left hs; replace hs := And.right hs)); go_simp; with_reducible rfl⟩)
 (hc : takeB md ops ds (bz n m) (bz n (m + 2 ^ i)) i = true := by first | exact take_ofW HT_.out HW_.out (by kernel_rfl) | exact take_of HT_.out (by kernel_rfl) | kernel_rfl)
 (hQ : ∀ c a w, Q (.panic c) (a.put oi.dst v) w → Q (.panic c) a w := by exact fun _ _ _ h => h) (ha : a.put (some N) v = a' := by simp only [Act.put, List.setIfInBounds_toArray, List.set_cons_zero, List.set_cons_succ, i64_w, i32_w]; rfl) : Go ((i + 1000) :: is) (wpAnyLast P md ops Q S ds (fuel + 1) (bz n m) a w) q :=
 ⟨fun hq => take_ _ hi hN hc hQ hy hS ha (h.out hq)⟩
theorem st_ {id : Nat} {a : Act} {w : World} (n : Nat) (S : World → Prop) (ds : List Nat) (hS : S w.drew) (h : S w.drew → wpAnyLast P .any ops Q S ds n (bz n 0) a w.drew)
 (hm : P.follows .mixedOrders = true := by kernel_rfl) (hn : ops.size = n := by exact rfl) : (Code.region id ops true).wp P Q a w :=
 start_ _ hm hn (bz_zero n) hS h
theorem on_ (i N : Nat) {oi : Oper} {fuel : Nat} {a : Act} {w : World}
 (h : ∀ K : Act → World → Prop, Shut (∀ a' w', S w' → (S w' → wpAnyLast P md ops Q S ds fuel (bz n (m + 2 ^ i)) a' w') → K a' w') → if Region.wanted oi (yielded ops a.tmps) = true then Oper.wp P oi a w K Q else K (a.put (some N) undef) w)
 (hi : ops[i]? = some oi := by exact rfl) (hN : oi.dst = some N := by exact rfl) (hc : readyB md ops (bz n m) (bz n (m + 2 ^ i)) i = true := by first | exact one_of HT_.out (by kernel_rfl) | kernel_rfl) (hd : i ∉ ds := by decide) :
 wpAnyLast P md ops Q S ds (fuel + 1) (bz n m) a w := one_ _ hi hN hc hd h
theorem nm_ {fuel : Nat} {l : Array Bool} {a a' : Act} {w : World} (h : wpAnyLast P md ops Q S ds fuel l a' w) (ha : a = a' := by (show Act.put _ (some _) _ = _); simp only [Act.put, List.setIfInBounds_toArray, List.set_cons_zero, List.set_cons_succ, i64_w, i32_w]; rfl) : wpAnyLast P md ops Q S ds fuel l a w := norm_ ha h
theorem gs_ {oi : Oper} {N : Option Tmp} {a : Act} {w : World} {K : Act → World → Prop} {f : FuncId} {fn : Func} {ags : Array Operand} {ts : Array TypeId} (hf : P.funcs[f]? = some fn) (args : Array Value)
 (h : Calls P f args w fun e w' => ∃ v, e = .returned v ∧ K (a.put N v) w') (hname : (fn.name == "runtime.NumGoroutine") = false := by kernel_rfl) (hb : fn.body.isSome = true := by exact rfl)
 (hw : Region.wanted oi (yielded ops a.tmps) = true := by rfl) (hN : oi.dst = N := by exact rfl) (hop : oi.op = .call { callee := .value (.func f), args := ags, argTypes := ts } := by exact rfl)
 (hargs : ags.map a.eval = args := by (try simp only [List.map_toArray, List.map_cons, List.map_nil]); first | done | rfl | (simp only [List.length_drop, List.length_take]; rfl)) : if Region.wanted oi (yielded ops a.tmps) = true then Oper.wp P oi a w K Q else K (a.put N undef) w :=
 goes_ hf hname hb args hw hN hop hargs h
theorem gl_ {rest : List Oper} {oi : Oper} {a : Act} {w : World} (N : Nat) {f : FuncId} {fn : Func} {ags : Array Operand} {ts : Array TypeId} (hf : P.funcs[f]? = some fn) (args : Array Value)
 (h : Calls P f args w fun e w' => ∃ v, e = .returned v ∧ wpList P ops Q rest (a.put (some N) v) w') (hd : oi.dst = some N := by exact rfl) (hg : oi.guard = none := by exact rfl)
 (hname : (fn.name == "runtime.NumGoroutine") = false := by kernel_rfl) (hb : fn.body.isSome = true := by exact rfl) (hop : oi.op = .call { callee := .value (.func f), args := ags, argTypes := ts } := by exact rfl)
 (hargs : ags.map a.eval = args := by (try simp only [List.map_toArray, List.map_cons, List.map_nil]); first | done | rfl | (simp only [List.length_drop, List.length_take]; rfl)) : wpList P ops Q (oi :: rest) a w :=
 goesL_ _ hd hg hf hname hb args hop hargs h
end
theorem go_ {p : Prop} (q : Prop) (is : List Nat) (h : q) (g : Go is p q := by repeat (first | exact Go.nil | refine Go.pz ?_ | refine Go.tz hHeld ?_ | refine Go.pu ?_)) : p := g.out h
theorem ak {p : Prop} (h : p) : Aside0 p := ⟨h⟩
theorem bc {w : World} {g : Nat} {t : TypeId} {cs : Array Value} {u : Value} (h : w.heap[g]? = some (.cells cs t (0, 0))) (i : Nat) (e : cs[i]? = some u := by rfl) : w.cell? ⟨g, i, none⟩ = some u := (blk_cell h i).trans e
section
variable {α : Type} {d : Kd α} {e base g : Nat} {o : Obj} {w w1 : World} {ok : Nat → Prop} {v : Value} {xs : List α} {q : Prop}
theorem rb (H : Aside0 q) (hb : Below w.heap.size w w1) (f : q → Kd.R d e w base ok v xs := by intro y_; (with_reducible repeat (first | apply Kd.R_alloc | apply Kd.R_drewN | apply Kd.R_drew)); exact y_) : Aside0 (Kd.R d e w1 base ok v xs) := ⟨Kd.R_below (f H.out) hb⟩
theorem nb (H : Aside0 q) (hb : Below w.heap.size w w1) (f : q → Kd.N d e w base ok v xs := by intro y_; (with_reducible repeat (first | apply Kd.N_alloc | apply Kd.N_drewN | apply Kd.N_drew)); exact y_) : Aside0 (Kd.N d e w1 base ok v xs) := ⟨Kd.N_below (f H.out) hb⟩
theorem qb (H : Aside0 q) (hb : Below w.heap.size w w1) (f : q → Kd.Q d e w base ok v xs := by intro y_; (with_reducible repeat (first | apply Kd.Q_alloc | apply Kd.Q_drewN | apply Kd.Q_drew)); exact y_) : Aside0 (Kd.Q d e w1 base ok v xs) := ⟨Kd.Q_below (f H.out) hb⟩
theorem sb (H : Aside0 q) (hb : Below w.heap.size w w1) (f : q → Kd.S d e w base ok v xs := by intro y_; (with_reducible repeat (first | apply Kd.S_alloc | apply Kd.S_drewN | apply Kd.S_drew)); exact y_) : Aside0 (Kd.S d e w1 base ok v xs) := ⟨Kd.S_below (f H.out) hb⟩
theorem bb (H : Aside0 q) (hb : Below w.heap.size w w1) (f : q → w.heap[g]? = some o := by intro y_; (with_reducible repeat (first | refine blk_drewN ?_ _ | refine blk_drew ?_ | refine blk_alloc ?_ _)); exact y_) : Aside0 (w1.heap[g]? = some o) := ⟨blk_below (f H.out) hb⟩
theorem rd (H : Aside0 (Kd.R d e w base ok v xs)) : Aside0 (Kd.R d e w.drew base ok v xs) := ⟨Kd.R_drew H.out⟩
theorem nd (H : Aside0 (Kd.N d e w base ok v xs)) : Aside0 (Kd.N d e w.drew base ok v xs) := ⟨Kd.N_drew H.out⟩
theorem qd (H : Aside0 (Kd.Q d e w base ok v xs)) : Aside0 (Kd.Q d e w.drew base ok v xs) := ⟨Kd.Q_drew H.out⟩
theorem sd (H : Aside0 (Kd.S d e w base ok v xs)) : Aside0 (Kd.S d e w.drew base ok v xs) := ⟨Kd.S_drew H.out⟩
theorem bd (H : Aside0 (w.heap[g]? = some o)) : Aside0 (w.drew.heap[g]? = some o) := ⟨blk_drew H.out⟩
end
end Go.Proofs.Ytdphpmejjlgpnaa.Short
