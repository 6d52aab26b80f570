/- Small lemmas of this session that the walks lean on: the length of a cut as the slot has it; copying into a row of the call's own. -/
import Derived.Test.YtbjeemlbjkmhiaaDoorWWords
import Derived.Test.YtbjeemlbjkmhiaaDoorWLast
import Derived.Test.YtbjeemlbjkmhiaaDoorWTab
import Derived.KernelRfl
import Derived.Laws.CopyOwn
namespace Go.Proofs.YtbjeemlbjkmhiaaDoor
open Go.RowKit Go.Proofs.YtbjeemlbjkmhiaaDoorW.PrintWords Go.Proofs.YtbjeemlbjkmhiaaDoorW.PrintLast

theorem lenEq_ {α : Type} {R : α → List Value → Prop} {sz : Nat} {w : World} {A : Option Addr} {m n : Nat} {xs : List α} (e : m = n) (h : ReadsRow R sz w A m xs) : ReadsRow R sz w A n xs := e ▸ h

section
variable {P : Program} {ops : Array Oper} {rest : List Oper} {o : Oper} {a : Act} {Q : Exit → Act → World → Prop}
end

class Up (W W' : World) : Prop where
  bel : Below W.heap.size W W'
instance upRefl (W : World) : Up W W := ⟨Below.refl _ _⟩
instance upAlloc (W W' : World) (o : Obj) [h : Up W W'] : Up W (W'.alloc o) := ⟨below_alloc h.bel o⟩
instance upDrewN (W W' : World) (n : Nat) [h : Up W W'] : Up W (W'.drewN n) := ⟨pw_below_drewN h.bel n⟩
instance upDrew (W W' : World) [h : Up W W'] : Up W W'.drew := ⟨below_drew1 h.bel⟩
instance upSetDrewN (W : World) (n : Nat) (a : Addr) (v : Value) : Up (W.setCell a v) ((W.drewN n).setCell a v) := ⟨(pw_below_drewN (Below.refl _ (W.setCell a v)) n : Below _ _ ((W.setCell a v).drewN n))⟩
instance upSetDrew (W : World) (a : Addr) (v : Value) : Up (W.setCell a v) (W.drew.setCell a v) := ⟨(below_drew1 (Below.refl _ (W.setCell a v)) : Below _ _ ((W.setCell a v).drew))⟩
theorem rU_ {α : Type} {d : Kd α} {e base : Nat} {W W' : World} {ok : Nat → Prop} {v : Value} {xs : List α} [h : Up W W'] (g : d.R e W base ok v xs) : d.R e W' base ok v xs := Kd.R_below g h.bel
theorem cU_ {α : Type} {d : Kd α} {W W' : World} {A : Option Addr} {n : Nat} {xs : List α} [h : Up W W'] (g : d.C W A n xs) : d.C W' A n xs := Kd.C_below g h.bel
theorem bU_ {w W W' : World} [h : Up W W'] (g : Below w.heap.size w W) : Below w.heap.size w W' := below_step g h.bel
theorem bd_ {α β : Type} {o : Option α} {f : α → Option β} {b : β} {P : Prop} (K : ∀ a, Aside0 (o = some a) → f a = some b → P) (h : o.bind f = some b) : P := by
  obtain ⟨a, h1, h2⟩ := Option.bind_eq_some_iff.mp h
  exact K a ⟨h1⟩ h2
theorem it_ {α : Type} {c : Prop} [Decidable c] {a : Option α} {b : α} (h : (if c then a else none) = some b) : c ∧ a = some b := by
  by_cases hc : c
  · rw [if_pos hc] at h; exact ⟨hc, h⟩
  · rw [if_neg hc] at h; exact absurd h (by simp)
theorem od_ {p : Prop} [Decidable p] (h : decide p = true := by first | (with_reducible assumption) | assumption) : p := of_decide_eq_true h
theorem s1_ {α : Type} {xs : List α} {i : Nat} {a : α} : xs.toArray.setIfInBounds i a = (xs.set i a).toArray := List.setIfInBounds_toArray ..
theorem s2_ {α : Type} {x : α} {xs : List α} {a : α} : (x :: xs).set 0 a = a :: xs := List.set_cons_zero ..
theorem s3_ {α : Type} {x : α} {xs : List α} {n : Nat} {a : α} : (x :: xs).set (n + 1) a = x :: xs.set n a := List.set_cons_succ ..
theorem nx1_ {P A0 : Prop} (h0 : A0) (k : Aside0 A0 → P) : P := k ⟨h0⟩
theorem nx2_ {P A0 A1 : Prop} (h0 : A0) (h1 : A1) (k : Aside0 A0 → Aside0 A1 → P) : P := k ⟨h0⟩ ⟨h1⟩
theorem nx3_ {P A0 A1 A2 : Prop} (h0 : A0) (h1 : A1) (h2 : A2) (k : Aside0 A0 → Aside0 A1 → Aside0 A2 → P) : P := k ⟨h0⟩ ⟨h1⟩ ⟨h2⟩
theorem nx4_ {P A0 A1 A2 A3 : Prop} (h0 : A0) (h1 : A1) (h2 : A2) (h3 : A3) (k : Aside0 A0 → Aside0 A1 → Aside0 A2 → Aside0 A3 → P) : P := k ⟨h0⟩ ⟨h1⟩ ⟨h2⟩ ⟨h3⟩
theorem nx5_ {P A0 A1 A2 A3 A4 : Prop} (h0 : A0) (h1 : A1) (h2 : A2) (h3 : A3) (h4 : A4) (k : Aside0 A0 → Aside0 A1 → Aside0 A2 → Aside0 A3 → Aside0 A4 → P) : P := k ⟨h0⟩ ⟨h1⟩ ⟨h2⟩ ⟨h3⟩ ⟨h4⟩
theorem nx6_ {P A0 A1 A2 A3 A4 A5 : Prop} (h0 : A0) (h1 : A1) (h2 : A2) (h3 : A3) (h4 : A4) (h5 : A5) (k : Aside0 A0 → Aside0 A1 → Aside0 A2 → Aside0 A3 → Aside0 A4 → Aside0 A5 → P) : P := k ⟨h0⟩ ⟨h1⟩ ⟨h2⟩ ⟨h3⟩ ⟨h4⟩ ⟨h5⟩
theorem nx7_ {P A0 A1 A2 A3 A4 A5 A6 : Prop} (h0 : A0) (h1 : A1) (h2 : A2) (h3 : A3) (h4 : A4) (h5 : A5) (h6 : A6) (k : Aside0 A0 → Aside0 A1 → Aside0 A2 → Aside0 A3 → Aside0 A4 → Aside0 A5 → Aside0 A6 → P) : P := k ⟨h0⟩ ⟨h1⟩ ⟨h2⟩ ⟨h3⟩ ⟨h4⟩ ⟨h5⟩ ⟨h6⟩
theorem nx8_ {P A0 A1 A2 A3 A4 A5 A6 A7 : Prop} (h0 : A0) (h1 : A1) (h2 : A2) (h3 : A3) (h4 : A4) (h5 : A5) (h6 : A6) (h7 : A7) (k : Aside0 A0 → Aside0 A1 → Aside0 A2 → Aside0 A3 → Aside0 A4 → Aside0 A5 → Aside0 A6 → Aside0 A7 → P) : P := k ⟨h0⟩ ⟨h1⟩ ⟨h2⟩ ⟨h3⟩ ⟨h4⟩ ⟨h5⟩ ⟨h6⟩ ⟨h7⟩
theorem nx9_ {P A0 A1 A2 A3 A4 A5 A6 A7 A8 : Prop} (h0 : A0) (h1 : A1) (h2 : A2) (h3 : A3) (h4 : A4) (h5 : A5) (h6 : A6) (h7 : A7) (h8 : A8) (k : Aside0 A0 → Aside0 A1 → Aside0 A2 → Aside0 A3 → Aside0 A4 → Aside0 A5 → Aside0 A6 → Aside0 A7 → Aside0 A8 → P) : P := k ⟨h0⟩ ⟨h1⟩ ⟨h2⟩ ⟨h3⟩ ⟨h4⟩ ⟨h5⟩ ⟨h6⟩ ⟨h7⟩ ⟨h8⟩
theorem nx10_ {P A0 A1 A2 A3 A4 A5 A6 A7 A8 A9 : Prop} (h0 : A0) (h1 : A1) (h2 : A2) (h3 : A3) (h4 : A4) (h5 : A5) (h6 : A6) (h7 : A7) (h8 : A8) (h9 : A9) (k : Aside0 A0 → Aside0 A1 → Aside0 A2 → Aside0 A3 → Aside0 A4 → Aside0 A5 → Aside0 A6 → Aside0 A7 → Aside0 A8 → Aside0 A9 → P) : P := k ⟨h0⟩ ⟨h1⟩ ⟨h2⟩ ⟨h3⟩ ⟨h4⟩ ⟨h5⟩ ⟨h6⟩ ⟨h7⟩ ⟨h8⟩ ⟨h9⟩
theorem nx12_ {P A0 A1 A2 A3 A4 A5 A6 A7 A8 A9 A10 A11 : Prop} (h0 : A0) (h1 : A1) (h2 : A2) (h3 : A3) (h4 : A4) (h5 : A5) (h6 : A6) (h7 : A7) (h8 : A8) (h9 : A9) (h10 : A10) (h11 : A11) (k : Aside0 A0 → Aside0 A1 → Aside0 A2 → Aside0 A3 → Aside0 A4 → Aside0 A5 → Aside0 A6 → Aside0 A7 → Aside0 A8 → Aside0 A9 → Aside0 A10 → Aside0 A11 → P) : P := k ⟨h0⟩ ⟨h1⟩ ⟨h2⟩ ⟨h3⟩ ⟨h4⟩ ⟨h5⟩ ⟨h6⟩ ⟨h7⟩ ⟨h8⟩ ⟨h9⟩ ⟨h10⟩ ⟨h11⟩
theorem nx13_ {P A0 A1 A2 A3 A4 A5 A6 A7 A8 A9 A10 A11 A12 : Prop} (h0 : A0) (h1 : A1) (h2 : A2) (h3 : A3) (h4 : A4) (h5 : A5) (h6 : A6) (h7 : A7) (h8 : A8) (h9 : A9) (h10 : A10) (h11 : A11) (h12 : A12) (k : Aside0 A0 → Aside0 A1 → Aside0 A2 → Aside0 A3 → Aside0 A4 → Aside0 A5 → Aside0 A6 → Aside0 A7 → Aside0 A8 → Aside0 A9 → Aside0 A10 → Aside0 A11 → Aside0 A12 → P) : P := k ⟨h0⟩ ⟨h1⟩ ⟨h2⟩ ⟨h3⟩ ⟨h4⟩ ⟨h5⟩ ⟨h6⟩ ⟨h7⟩ ⟨h8⟩ ⟨h9⟩ ⟨h10⟩ ⟨h11⟩ ⟨h12⟩
theorem nx14_ {P A0 A1 A2 A3 A4 A5 A6 A7 A8 A9 A10 A11 A12 A13 : Prop} (h0 : A0) (h1 : A1) (h2 : A2) (h3 : A3) (h4 : A4) (h5 : A5) (h6 : A6) (h7 : A7) (h8 : A8) (h9 : A9) (h10 : A10) (h11 : A11) (h12 : A12) (h13 : A13) (k : Aside0 A0 → Aside0 A1 → Aside0 A2 → Aside0 A3 → Aside0 A4 → Aside0 A5 → Aside0 A6 → Aside0 A7 → Aside0 A8 → Aside0 A9 → Aside0 A10 → Aside0 A11 → Aside0 A12 → Aside0 A13 → P) : P := k ⟨h0⟩ ⟨h1⟩ ⟨h2⟩ ⟨h3⟩ ⟨h4⟩ ⟨h5⟩ ⟨h6⟩ ⟨h7⟩ ⟨h8⟩ ⟨h9⟩ ⟨h10⟩ ⟨h11⟩ ⟨h12⟩ ⟨h13⟩
theorem nx15_ {P A0 A1 A2 A3 A4 A5 A6 A7 A8 A9 A10 A11 A12 A13 A14 : Prop} (h0 : A0) (h1 : A1) (h2 : A2) (h3 : A3) (h4 : A4) (h5 : A5) (h6 : A6) (h7 : A7) (h8 : A8) (h9 : A9) (h10 : A10) (h11 : A11) (h12 : A12) (h13 : A13) (h14 : A14) (k : Aside0 A0 → Aside0 A1 → Aside0 A2 → Aside0 A3 → Aside0 A4 → Aside0 A5 → Aside0 A6 → Aside0 A7 → Aside0 A8 → Aside0 A9 → Aside0 A10 → Aside0 A11 → Aside0 A12 → Aside0 A13 → Aside0 A14 → P) : P := k ⟨h0⟩ ⟨h1⟩ ⟨h2⟩ ⟨h3⟩ ⟨h4⟩ ⟨h5⟩ ⟨h6⟩ ⟨h7⟩ ⟨h8⟩ ⟨h9⟩ ⟨h10⟩ ⟨h11⟩ ⟨h12⟩ ⟨h13⟩ ⟨h14⟩
theorem gb_ {α : Type} {a b : α} (h : a = b := by first | rfl | (simp; done) | (simp [*]; done)) : a = b := h
theorem ak {p : Prop} (h : p) : Aside0 p := ⟨h⟩
section
variable {P : Program} {ops : Array Oper} {rest : List Oper} {oi : Oper} {a : Act} {w : World} {Q : Exit → Act → World → Prop}
theorem gl_ (N : Option Tmp) {f : FuncId} {fn : Func} {as : Array Operand} {ts : Array TypeId} (hf : P.funcs[f]? = some fn) (args : Array Value)
    (h : Calls P f args w fun e w' => ∃ v, e = .returned v ∧ wpList P ops Q rest (a.put N v) w')
    (hd : oi.dst = N := by rfl) (hg : oi.guard = none := by rfl) (hname : (fn.name == "runtime.NumGoroutine") = false := by kernel_rfl) (hb : fn.body.isSome = true := by rfl)
    (hop : oi.op = .call { callee := .value (.func f), args := as, argTypes := ts } := by rfl) (hargs : as.map a.eval = args := by (try simp only [List.map_toArray, List.map_cons, List.map_nil]); first | done | rfl | (simp only [List.length_drop, List.length_take]; rfl)) : wpList P ops Q (oi :: rest) a w :=
  goesL_ N hd hg hf hname hb args hop hargs h
end
theorem bd2_ {α α' β : Type} {o : Option (α × α')} {f : α × α' → Option β} {b : β} {P : Prop} (K : ∀ x y, Aside0 (o = some (x, y)) → f (x, y) = some b → P) (h : o.bind f = some b) : P := bd_ (fun ⟨x, y⟩ => K x y) h
theorem bd3_ {α α' α'' β : Type} {o : Option (α × α' × α'')} {f : α × α' × α'' → Option β} {b : β} {P : Prop} (K : ∀ x y z, Aside0 (o = some (x, y, z)) → f (x, y, z) = some b → P) (h : o.bind f = some b) : P := bd_ (fun ⟨x, y, z⟩ => K x y z) h
def bv (n m : Nat) : Array Bool := ((List.range n).map m.testBit).toArray
section
variable {P : Program} {ops : Array Oper} {Q : Exit → Act → World → Prop} {md : Region.Mode} {S : World → Prop} {ds : List Nat}
end
end Go.Proofs.YtbjeemlbjkmhiaaDoor
