/- Short words of the printed walks, second part (squeeze3.py puts them in): facts lifted to a later world by themselves. -/
import Derived.Test.YtbjeemlbjkmhiaaDoorAid
import Derived.Test.YtbjeemlbjkmhiaaDoorWShare
import Derived.Test.YtbjeemlbjkmhiaaDoorWTab
import Derived.Test.YtbjeemlbjkmhiaaDoorWMore
import Derived.Tactics
namespace Go.Proofs.YtbjeemlbjkmhiaaDoor
open Go.RowKit Go.Proofs.YtbjeemlbjkmhiaaDoorW.PrintWords Go.Proofs.YtbjeemlbjkmhiaaDoorW.PrintLast Go.Proofs.YtbjeemlbjkmhiaaDoorW.PrintMore
set_option linter.unusedVariables false
theorem kU_ {W W' : World} {g : Nat} {o : Obj} [h : Up W W'] (k : W.heap[g]? = some o) : W'.heap[g]? = some o := (h.bel.block g (blk_lt k)).trans k
theorem vU_ {α : Type} {d : Kd α} {e base : Nat} {W W' : World} {ok : Nat → Prop} {v : Value} {xs : List α} [h : Up W W'] (g : Kd.V d e W base ok v xs) : Kd.V d e W' base ok v xs := Kd.V_below g h.bel
theorem kp_ {P : Prop} (h : P := by (repeat' (first | with_reducible refine blk_drewN ?_ _ | with_reducible refine blk_drew ?_ | with_reducible refine blk_alloc ?_ _ | refine blk_put (cs := ?_) ?_ _ _ ?_ | refine blk_far ?_ (Aside0.out (by assumption)) _ | exact Aside0.out (by assumption) | rfl))) : P := h
theorem sU_ {P : Prop} (h : P := by repeat (first | (with_reducible first | exact HB.out | apply below_alloc | apply pw_below_drewN | apply below_drew1 | refine below_set ?_ (Aside0.out (by assumption))) | exact HB.out)) : P := h
theorem kK_ {P : Prop} (h : P := by repeat (first | (with_reducible first | exact HK.out | apply Kept.alloc | apply Kept.drewN | apply Kept.drew) | exact HK.out)) : P := h
section
variable {α : Type} {d : Kd α} {e base : Nat} {w W W' : World} {ok : Nat → Prop} {v : Value} {xs : List α} {g : Nat}
theorem vf_ (g : Nat) (h : Kd.V d e w base ok v xs) (n : ∀ k, ok k → k ≠ g) {u0 u1 : Value} : Kd.V d e ((w.setCell ⟨g, 0, none⟩ u0).setCell ⟨g, 1, none⟩ u1) base ok v xs :=
  Kd.V_far (p := ⟨g, 1, none⟩) (Kd.V_far (p := ⟨g, 0, none⟩) h (fun _ hk => n _ hk) u0) (fun _ hk => n _ hk) u1
theorem vL_ (h : Kd.V d e W base ok v xs) (u : Up W W' := by with_reducible repeat (first | exact upRefl _ | refine @upAlloc _ _ _ ?_ | refine @upDrewN _ _ _ ?_ | refine @upDrew _ _ ?_)) : Kd.V d e W' base ok v xs := Kd.V_below h u.bel
end
theorem dd_ {w : World} {x y z : Nat} : (w.drewN (x + y)).drewN z = w.drewN (x + (y + z)) := Eq.trans (World.drewN_drewN _ _ _) (congrArg (World.drewN _) (Nat.add_assoc _ _ _))
theorem gs_ {P : Program} {ops : Array Oper} {Q : Exit → Act → World → Prop} {oi : Oper} {N : Option Tmp} {a : Act} {w : World} {K : Act → World → Prop} {f : FuncId} {fn : Func} {as : Array Operand} {ts : Array TypeId} (hf : P.funcs[f]? = some fn) (args : Array Value)
    (h : Calls P f args w fun e w' => ∃ v, e = .returned v ∧ K (a.put N v) w') (hname : (fn.name == "runtime.NumGoroutine") = false := by kernel_rfl) (hb : fn.body.isSome = true := by rfl) (hw : Region.wanted oi (yielded ops a.tmps) = true := by rfl) (hN : oi.dst = N := by rfl)
    (hop : oi.op = .call { callee := .value (.func f), args := as, argTypes := ts } := by rfl) (hargs : as.map a.eval = args := by (try simp only [List.map_toArray, List.map_cons, List.map_nil]); first | done | rfl | (simp only [List.length_drop, List.length_take]; rfl)) : if Region.wanted oi (yielded ops a.tmps) = true then Oper.wp P oi a w K Q else K (a.put N undef) w :=
  goes_ hf hname hb args hw hN hop hargs h
theorem hs_ {b g : Nat} {W : World} (hg : g = W.heap.size) (h : b ≤ W.heap.size) : b ≤ g := hg ▸ h
theorem hl_ {g g' : Nat} {o : Obj} {W : World} (hg : g = W.heap.size) (h : W.heap[g']? = some o) : g' ≠ g := hg ▸ Nat.ne_of_lt (blk_lt h)
theorem hm_ {g g' : Nat} {o : Obj} {W : World} (hg : g = W.heap.size) (h : W.heap[g']? = some o) : g ≠ g' := (hl_ hg h).symm
section
variable {w : World} {g : Nat} {t : TypeId} {a b c : Value} {l : List Value}
theorem bc0_ (h : w.heap[g]? = some (.cells (List.toArray (a :: l)) t (0, 0))) : w.cell? ⟨g, 0, none⟩ = some a := (blk_cell h 0).trans (by simp)
theorem bc1_ (h : w.heap[g]? = some (.cells (List.toArray (a :: b :: l)) t (0, 0))) : w.cell? ⟨g, 1, none⟩ = some b := (blk_cell h 1).trans (by simp)
end
theorem eW_ {α : Type} {a b : α} (h : a = b := by first | rfl | (simp [errW_none, errW_some] <;> rfl) | (simp [*, errW_none, errW_some] <;> rfl)) : a = b := h
section
variable {P : Program} {ops : Array Oper} {Q : Exit → Act → World → Prop} {md : Region.Mode} {S : World → Prop} {ds : List Nat} {oi : Oper} {v : Value} {fuel : Nat} {l : Array Bool} {a a' : Act} {w : World} {T : Bool × List (List Nat × List Nat)} {B : List Nat}
theorem pq_ (i N n m : Nat) (hT : rtab md ops = T) (h : wpAnyLast P md ops Q S ds fuel (bv n m) a' w) (hi : ops[i]? = some oi := by rfl) (hN : oi.dst = some N := by rfl)
    (hy : ∀ w', (execOp a.eval oi).run P w' = .ok (.value v) w' := by (intro w'; go_simp; with_reducible rfl)) (ha : a.put (some N) v = a' := by (simp only [Act.put, s1_, s2_, s3_, i64_w, i32_w]; rfl))
    (hc : anyT T l.toList (bv n m).toList i = true := by kernel_rfl) (hQ : ∀ c a w, Q (.panic c) (a.put oi.dst v) w → Q (.panic c) a w := by exact fun _ _ _ h => h) (hw : Region.wanted oi (yielded ops a.tmps) = true := by rfl) : wpAnyLast P md ops Q S ds (fuel + 1) l a w :=
  pure_ (bv n m) hi hN (any_of hT hc) hQ (Or.inl ⟨hw, hy⟩) ha h
theorem tq_ (i N n m : Nat) (hT : rtab md ops = T) (hB : waitsOk T.2 B = true) (hS : S w) (h : wpAnyLast P md ops Q S ds fuel (bv n m) a' w) (hi : ops[i]? = some oi := by rfl) (hN : oi.dst = some N := by rfl)
    (hy : ∀ w', S w' → (execOp a.eval oi).run P w' = .ok (.value v) w' := by (intro w' hs_; (repeat (obtain ⟨_, hs_⟩ : _ ∧ _ := hs_)); go_simp; with_reducible rfl)) (ha : a.put (some N) v = a' := by (simp only [Act.put, s1_, s2_, s3_, i64_w, i32_w]; rfl))
    (hc : takeW T B ds l.toList (bv n m).toList i = true := by kernel_rfl) (hQ : ∀ c a w, Q (.panic c) (a.put oi.dst v) w → Q (.panic c) a w := by exact fun _ _ _ h => h) (hw : Region.wanted oi (yielded ops a.tmps) = true := by rfl) : wpAnyLast P md ops Q S ds (fuel + 1) l a w :=
  take_ (bv n m) hi hN (take_ofW hT hB hc) hQ (Or.inl ⟨hw, hy⟩) hS ha h
theorem oq_ (i N n m : Nat) (hT : rtab md ops = T)
    (h : ∀ K : Act → World → Prop, Shut (∀ a' w', S w' → (S w' → wpAnyLast P md ops Q S ds fuel (bv n m) a' w') → K a' w') → if Region.wanted oi (yielded ops a.tmps) = true then Oper.wp P oi a w K Q else K (a.put (some N) undef) w)
    (hi : ops[i]? = some oi := by rfl) (hN : oi.dst = some N := by rfl) (hc : (readyT T.2 l.toList == [i] && l.toList.set i true == (bv n m).toList) = true := by kernel_rfl) (hd : i ∉ ds := by decide) : wpAnyLast P md ops Q S ds (fuel + 1) l a w :=
  one_ (bv n m) hi hN (one_of hT hc) hd h
end
section
variable {P : Program} {ops : Array Oper} {rest : List Oper} {o : Oper} {a : Act} {Q : Exit → Act → World → Prop} {W : World}
theorem bx_ (N : Tmp) (t : TypeId) (cs : Array Value)
    (h : ∀ g, g = W.heap.size → ∀ w1, w1.heap[g]? = some (.cells cs t (0, 0)) → Below W.heap.size W w1 → wpList P ops Q rest (a.put o.dst (.pointer (some ⟨g, 0, none⟩))) w1)
    (hd : o.dst = some N := by rfl) (hgd : o.guard = none := by rfl) (hrun : (execOp a.eval o).run P W = .ok (.value (.pointer (some ⟨W.heap.size, 0, none⟩))) (W.alloc (.cells cs t (0, 0))) := by first | (go_simp; done) | (go_simp; rfl)) : wpList P ops Q (o :: rest) a W :=
  box_event hgd hd hrun h
end
theorem nx19_ {P A0 A1 A2 A3 A4 A5 A6 A7 A8 A9 A10 A11 A12 A13 A14 A15 A16 A17 A18 : Prop} (h0 : A0) (h1 : A1) (h2 : A2) (h3 : A3) (h4 : A4) (h5 : A5) (h6 : A6) (h7 : A7) (h8 : A8) (h9 : A9) (h10 : A10) (h11 : A11) (h12 : A12) (h13 : A13) (h14 : A14) (h15 : A15) (h16 : A16) (h17 : A17) (h18 : A18) (k : Aside0 A0 → Aside0 A1 → Aside0 A2 → Aside0 A3 → Aside0 A4 → Aside0 A5 → Aside0 A6 → Aside0 A7 → Aside0 A8 → Aside0 A9 → Aside0 A10 → Aside0 A11 → Aside0 A12 → Aside0 A13 → Aside0 A14 → Aside0 A15 → Aside0 A16 → Aside0 A17 → Aside0 A18 → P) : P := k ⟨h0⟩ ⟨h1⟩ ⟨h2⟩ ⟨h3⟩ ⟨h4⟩ ⟨h5⟩ ⟨h6⟩ ⟨h7⟩ ⟨h8⟩ ⟨h9⟩ ⟨h10⟩ ⟨h11⟩ ⟨h12⟩ ⟨h13⟩ ⟨h14⟩ ⟨h15⟩ ⟨h16⟩ ⟨h17⟩ ⟨h18⟩
end Go.Proofs.YtbjeemlbjkmhiaaDoor
