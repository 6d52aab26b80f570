/- Small lemmas of this session that the walks lean on: the length of a cut as the slot has it; copying into a row of the call's own. -/
import Derived.Test.YthinfmfjpaikiaaDoorWWords
import Derived.Test.YthinfmfjpaikiaaDoorWLast
import Derived.Test.YthinfmfjpaikiaaDoorWTab
import Derived.KernelRfl
import Derived.Laws.CopyOwn
namespace Go.Proofs.YthinfmfjpaikiaaDoor
open Go.RowKit Go.Proofs.YthinfmfjpaikiaaDoorW.PrintWords Go.Proofs.YthinfmfjpaikiaaDoorW.PrintLast

theorem lenEq_ {α : Type} {R : α → List Value → Prop} {sz : Nat} {w : World} {A : Option Addr} {m n : Nat} {xs : List α} (e : m = n) (h : ReadsRow R sz w A m xs) : ReadsRow R sz w A n xs := e ▸ h

def cpyAt (xs : List Int) (k : Nat) (ys : List Int) : List Int := splice xs k (ys.take (xs.length - k))
theorem length_cpyAt (xs : List Int) (k : Nat) (ys : List Int) (h : k ≤ xs.length) : (cpyAt xs k ys).length = xs.length := by
  unfold cpyAt; apply length_splice; rw [List.length_take]; omega

section
variable {P : Program} {ops : Array Oper} {rest : List Oper} {o : Oper} {a : Act} {Q : Exit → Act → World → Prop}
end

class Up (W W' : World) : Prop where
  bel : Below W.heap.size W W'
instance upRefl (W : World) : Up W W := ⟨Below.refl _ _⟩
instance upAlloc (W W' : World) (o : Obj) [h : Up W W'] : Up W (W'.alloc o) := ⟨below_alloc h.bel o⟩
instance upDrewN (W W' : World) (n : Nat) [h : Up W W'] : Up W (W'.drewN n) := ⟨pw_below_drewN h.bel n⟩
instance upDrew (W W' : World) [h : Up W W'] : Up W W'.drew := ⟨below_drew1 h.bel⟩
instance upSetDrewN (W : World) (n : Nat) (a : Addr) (v : Value) : Up (W.setCell a v) ((W.drewN n).setCell a v) := ⟨(pw_below_drewN (Below.refl _ (W.setCell a v)) n : Below _ _ ((W.setCell a v).drewN n))⟩
instance upSetDrew (W : World) (a : Addr) (v : Value) : Up (W.setCell a v) (W.drew.setCell a v) := ⟨(below_drew1 (Below.refl _ (W.setCell a v)) : Below _ _ ((W.setCell a v).drew))⟩
theorem rU_ {α : Type} {d : Kd α} {e base : Nat} {W W' : World} {ok : Nat → Prop} {v : Value} {xs : List α} [h : Up W W'] (g : d.R e W base ok v xs) : d.R e W' base ok v xs := Kd.R_below g h.bel
theorem cU_ {α : Type} {d : Kd α} {W W' : World} {A : Option Addr} {n : Nat} {xs : List α} [h : Up W W'] (g : d.C W A n xs) : d.C W' A n xs := Kd.C_below g h.bel
theorem bU_ {w W W' : World} [h : Up W W'] (g : Below w.heap.size w W) : Below w.heap.size w W' := below_step g h.bel
theorem bd_ {α β : Type} {o : Option α} {f : α → Option β} {b : β} {P : Prop} (K : ∀ a, Aside0 (o = some a) → f a = some b → P) (h : o.bind f = some b) : P := by
  obtain ⟨a, h1, h2⟩ := Option.bind_eq_some_iff.mp h
  exact K a ⟨h1⟩ h2
theorem it_ {α : Type} {c : Prop} [Decidable c] {a : Option α} {b : α} (h : (if c then a else none) = some b) : c ∧ a = some b := by
  by_cases hc : c
  · rw [if_pos hc] at h; exact ⟨hc, h⟩
  · rw [if_neg hc] at h; exact absurd h (by simp)
theorem od_ {p : Prop} [Decidable p] (h : decide p = true := by first | (with_reducible assumption) | assumption) : p := of_decide_eq_true h
theorem s1_ {α : Type} {xs : List α} {i : Nat} {a : α} : xs.toArray.setIfInBounds i a = (xs.set i a).toArray := List.setIfInBounds_toArray ..
theorem s2_ {α : Type} {x : α} {xs : List α} {a : α} : (x :: xs).set 0 a = a :: xs := List.set_cons_zero ..
theorem s3_ {α : Type} {x : α} {xs : List α} {n : Nat} {a : α} : (x :: xs).set (n + 1) a = x :: xs.set n a := List.set_cons_succ ..
theorem nx1_ {P A0 : Prop} (h0 : A0) (k : Aside0 A0 → P) : P := k ⟨h0⟩
theorem nx2_ {P A0 A1 : Prop} (h0 : A0) (h1 : A1) (k : Aside0 A0 → Aside0 A1 → P) : P := k ⟨h0⟩ ⟨h1⟩
theorem nx3_ {P A0 A1 A2 : Prop} (h0 : A0) (h1 : A1) (h2 : A2) (k : Aside0 A0 → Aside0 A1 → Aside0 A2 → P) : P := k ⟨h0⟩ ⟨h1⟩ ⟨h2⟩
theorem nx4_ {P A0 A1 A2 A3 : Prop} (h0 : A0) (h1 : A1) (h2 : A2) (h3 : A3) (k : Aside0 A0 → Aside0 A1 → Aside0 A2 → Aside0 A3 → P) : P := k ⟨h0⟩ ⟨h1⟩ ⟨h2⟩ ⟨h3⟩
theorem nx5_ {P A0 A1 A2 A3 A4 : Prop} (h0 : A0) (h1 : A1) (h2 : A2) (h3 : A3) (h4 : A4) (k : Aside0 A0 → Aside0 A1 → Aside0 A2 → Aside0 A3 → Aside0 A4 → P) : P := k ⟨h0⟩ ⟨h1⟩ ⟨h2⟩ ⟨h3⟩ ⟨h4⟩
theorem nx6_ {P A0 A1 A2 A3 A4 A5 : Prop} (h0 : A0) (h1 : A1) (h2 : A2) (h3 : A3) (h4 : A4) (h5 : A5) (k : Aside0 A0 → Aside0 A1 → Aside0 A2 → Aside0 A3 → Aside0 A4 → Aside0 A5 → P) : P := k ⟨h0⟩ ⟨h1⟩ ⟨h2⟩ ⟨h3⟩ ⟨h4⟩ ⟨h5⟩
theorem nx7_ {P A0 A1 A2 A3 A4 A5 A6 : Prop} (h0 : A0) (h1 : A1) (h2 : A2) (h3 : A3) (h4 : A4) (h5 : A5) (h6 : A6) (k : Aside0 A0 → Aside0 A1 → Aside0 A2 → Aside0 A3 → Aside0 A4 → Aside0 A5 → Aside0 A6 → P) : P := k ⟨h0⟩ ⟨h1⟩ ⟨h2⟩ ⟨h3⟩ ⟨h4⟩ ⟨h5⟩ ⟨h6⟩
theorem nx8_ {P A0 A1 A2 A3 A4 A5 A6 A7 : Prop} (h0 : A0) (h1 : A1) (h2 : A2) (h3 : A3) (h4 : A4) (h5 : A5) (h6 : A6) (h7 : A7) (k : Aside0 A0 → Aside0 A1 → Aside0 A2 → Aside0 A3 → Aside0 A4 → Aside0 A5 → Aside0 A6 → Aside0 A7 → P) : P := k ⟨h0⟩ ⟨h1⟩ ⟨h2⟩ ⟨h3⟩ ⟨h4⟩ ⟨h5⟩ ⟨h6⟩ ⟨h7⟩
theorem nx9_ {P A0 A1 A2 A3 A4 A5 A6 A7 A8 : Prop} (h0 : A0) (h1 : A1) (h2 : A2) (h3 : A3) (h4 : A4) (h5 : A5) (h6 : A6) (h7 : A7) (h8 : A8) (k : Aside0 A0 → Aside0 A1 → Aside0 A2 → Aside0 A3 → Aside0 A4 → Aside0 A5 → Aside0 A6 → Aside0 A7 → Aside0 A8 → P) : P := k ⟨h0⟩ ⟨h1⟩ ⟨h2⟩ ⟨h3⟩ ⟨h4⟩ ⟨h5⟩ ⟨h6⟩ ⟨h7⟩ ⟨h8⟩
theorem gb_ {α : Type} {a b : α} (h : a = b := by first | rfl | (simp; done) | (simp [*]; done)) : a = b := h
theorem ak {p : Prop} (h : p) : Aside0 p := ⟨h⟩
section
variable {P : Program} {ops : Array Oper} {rest : List Oper} {oi : Oper} {a : Act} {w : World} {Q : Exit → Act → World → Prop}
theorem gl_ (N : Option Tmp) {f : FuncId} {fn : Func} {as : Array Operand} {ts : Array TypeId} (hf : P.funcs[f]? = some fn) (args : Array Value)
    (h : Calls P f args w fun e w' => ∃ v, e = .returned v ∧ wpList P ops Q rest (a.put N v) w')
    (hd : oi.dst = N := by rfl) (hg : oi.guard = none := by rfl) (hname : (fn.name == "runtime.NumGoroutine") = false := by kernel_rfl) (hb : fn.body.isSome = true := by rfl)
    (hop : oi.op = .call { callee := .value (.func f), args := as, argTypes := ts } := by rfl) (hargs : as.map a.eval = args := by (try simp only [List.map_toArray, List.map_cons, List.map_nil]); first | done | rfl | (simp only [List.length_drop, List.length_take]; rfl)) : wpList P ops Q (oi :: rest) a w :=
  goesL_ N hd hg hf hname hb args hop hargs h
end
theorem bd2_ {α α' β : Type} {o : Option (α × α')} {f : α × α' → Option β} {b : β} {P : Prop} (K : ∀ x y, Aside0 (o = some (x, y)) → f (x, y) = some b → P) (h : o.bind f = some b) : P := bd_ (fun ⟨x, y⟩ => K x y) h
theorem bd3_ {α α' α'' β : Type} {o : Option (α × α' × α'')} {f : α × α' × α'' → Option β} {b : β} {P : Prop} (K : ∀ x y z, Aside0 (o = some (x, y, z)) → f (x, y, z) = some b → P) (h : o.bind f = some b) : P := bd_ (fun ⟨x, y, z⟩ => K x y z) h
theorem bd4_ {α α' α'' α3 β : Type} {o : Option (α × α' × α'' × α3)} {f : α × α' × α'' × α3 → Option β} {b : β} {P : Prop} (K : ∀ x y z u, Aside0 (o = some (x, y, z, u)) → f (x, y, z, u) = some b → P) (h : o.bind f = some b) : P := bd_ (fun ⟨x, y, z, u⟩ => K x y z u) h
def bv (n m : Nat) : Array Bool := ((List.range n).map m.testBit).toArray
section
variable {P : Program} {ops : Array Oper} {Q : Exit → Act → World → Prop} {md : Region.Mode} {S : World → Prop} {ds : List Nat}
theorem pr_ {i : Nat} {N : Option Tmp} {oi : Oper} {v : Value} {fuel : Nat} {l : Array Bool} {a a' : Act} {w : World} {T : Bool × List (List Nat × List Nat)} (l' : Array Bool) (hT : rtab md ops = T)
    (hy : ∀ w', (execOp a.eval oi).run P w' = .ok (.value v) w') (ha : a.put N v = a') (h : wpAnyLast P md ops Q S ds fuel l' a' w)
    (hi : ops[i]? = some oi := by rfl) (hN : oi.dst = N := by rfl) (hc : anyT T l.toList l'.toList i = true := by kernel_rfl)
    (hQ : ∀ c a w, Q (.panic c) (a.put oi.dst v) w → Q (.panic c) a w := by exact fun _ _ _ h => h) (hw : Region.wanted oi (yielded ops a.tmps) = true := by rfl) : wpAnyLast P md ops Q S ds (fuel + 1) l a w :=
  pure_ l' hi hN (any_of hT hc) hQ (Or.inl ⟨hw, hy⟩) ha h
end
end Go.Proofs.YthinfmfjpaikiaaDoor
