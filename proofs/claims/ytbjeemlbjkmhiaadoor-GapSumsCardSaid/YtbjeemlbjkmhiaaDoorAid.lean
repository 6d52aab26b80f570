/- Small lemmas of this session that the walks lean on: the length of a cut as the slot has it; copying into a row of the call's own. -/
import Derived.Test.YtbjeemlbjkmhiaaDoorWWords
import Derived.Test.YtbjeemlbjkmhiaaDoorWLast
import Derived.Test.YtbjeemlbjkmhiaaDoorWTab
import Derived.KernelRfl
import Derived.Laws.CopyOwn
namespace Go.Proofs.YtbjeemlbjkmhiaaDoor
open Go.RowKit Go.Proofs.YtbjeemlbjkmhiaaDoorW.PrintWords Go.Proofs.YtbjeemlbjkmhiaaDoorW.PrintLast

def cpyAt (xs : List Int) (k : Nat) (ys : List Int) : List Int := splice xs k (ys.take (xs.length - k))
theorem length_cpyAt (xs : List Int) (k : Nat) (ys : List Int) (h : k ≤ xs.length) : (cpyAt xs k ys).length = xs.length := by
  unfold cpyAt; apply length_splice; rw [List.length_take]; omega

theorem take_over_ {α : Type} (C Y : List α) (N lo : Nat) (h : lo + Y.length ≤ N) (hN : N ≤ C.length) : (C.take lo ++ Y ++ C.drop (lo + Y.length)).take N = (C.take N).take lo ++ (Y ++ (C.take N).drop (lo + Y.length)) := by
  have h1 : (C.take lo ++ Y).length = lo + Y.length := by rw [List.length_append, List.length_take]; omega
  rw [List.take_append, h1, List.take_of_length_le (by omega), List.take_take, Nat.min_eq_left (by omega), List.append_assoc, List.drop_take]

section
variable {P : Program} {ops : Array Oper} {rest : List Oper} {o : Oper} {a : Act} {Q : Exit → Act → World → Prop}
theorem copy_cut_ (k : IntKind) {Rr : Int → List Value → Prop} {w0 W : World} (base : Nat) (hgd : o.guard = none) (s x : Operand) (t t' : TypeId) (e : TypeId)
    (ho : o.op = .call { callee := .builtin .copy, args := #[s, x], argTypes := #[t, t'] })
    (ht : P.underlying t = some (.slice e)) (hsz : (P.info? e).map (·.size) = some 1)
    (A0 : Option Addr) (n c0 : Nat) (xs : List Int) (lo : Nat) (dp : Option Addr) (dn dc : Nat) (ys : List Int) (A : Option Addr) (m c : Nat) (ok : Nat → Prop)
    (hs : a.eval s = .slice dp dn dc) (hx : a.eval x = .slice A m c) (hdp : dp = if c0 = lo then A0 else A0.map (·.add (lo * 1))) (hdn : dn = n - lo)
    (HO : (Kd.int k).R e W base ok (.slice A0 n c0) xs) (HR : ReadsRow Rr (Kd.int k).sz W A m ys) (hKM : ∀ x cs, Rr x cs → (Kd.int k).K W x cs) (_hfresh : ∀ k, W.heap.size ≤ k → ok k)
    (HB : Below base w0 W) (hbase : base ≤ W.heap.size)
    (h : ∀ w1, (Kd.int k).R e w1 base ok (.slice A0 n c0) (cpyAt xs lo ys) → Below base w0 w1 → W.grownBy w1 (Value.slice A0 n c0).ownBlock → ((Value.slice A0 n c0).ownBlock = (Value.slice A0 n c0).ownBlock ∨ False) → wpList P ops Q rest (a.put o.dst (goInt (ys.take (xs.length - lo)).length)) w1) :
    wpList P ops Q (o :: rest) a W := by
  have hC : (Kd.int k).C W A m ys := HR.imp_ (Below.refl _ _) hKM
  have hR := Kd.reads_of_C (enc := Value.int k) (d := (0 : Int)) (h1 := fun _ => rfl) hC
  have hm : ys.length = m := hR.1
  have hown := Kd.own_of_R (enc := Value.int k) (h1 := fun _ => rfl) HO
  obtain ⟨ys', hys⟩ : ∃ ys', ys' = ys.take (xs.length - lo) := ⟨_, rfl⟩
  have hyl : ys'.length = min (xs.length - lo) m := by rw [hys, List.length_take, hm]
  have hcp : cpyAt xs lo ys = splice xs lo ys' := by rw [hys]; rfl
  rw [hcp, ← hys] at h
  have fin : ∀ w1, (Builtin.copy_ #[t, t'] o.type #[.slice dp dn dc, .slice A m c]).run P W = .ok (goInt ys'.length) w1 → (Kd.int k).R e w1 base ok (.slice A0 n c0) (splice xs lo ys') → W.grownBy w1 (Value.slice A0 n c0).ownBlock → wpList P ops Q (o :: rest) a W := by
    intro w1 hr hrow hg
    refine wpList_plain hgd fun K hK => ?_
    unfold Oper.wp execOp
    simp only [ho, resolve, invoke, builtin, Sem.run_bind, Sem.run_pure, Result.andThen_ok, List.map_toArray, List.map_cons, List.map_nil, hs, hx, hr]
    exact hK _ _ (h w1 hrow (HB.grown hg hbase (own_base hown)) hg (Or.inl rfl))
  rcases hown.2 with ⟨hv, hx0⟩ | ⟨g, cap, cur, hv, hb, hh, hnc, hcm, hcs, htake⟩
  · have h0 : ys' = [] := List.eq_nil_of_length_eq_zero (by rw [hyl, hx0]; omega)
    obtain ⟨rfl, rfl, rfl⟩ : A0 = none ∧ n = 0 ∧ c0 = 0 := by cases hv; exact ⟨rfl, rfl, rfl⟩
    refine fin W ?_ (by rw [h0]; simpa [splice] using HO) (World.grownBy.refl W _)
    rw [h0]
    exact run_copy_none W t t' o.type e dp A dn dc m c ht hsz (by rw [hdn]; simp)
  · obtain ⟨rfl, rfl, rfl⟩ : A0 = some ⟨g, 0, none⟩ ∧ n = xs.length ∧ c0 = cap := by cases hv; exact ⟨rfl, rfl, rfl⟩
    rcases Nat.eq_zero_or_pos ys'.length with h0 | hp
    · have h0' : ys' = [] := List.eq_nil_of_length_eq_zero h0
      refine fin W ?_ (by rw [h0']; simpa [splice] using HO) (World.grownBy.refl W _)
      rw [h0']
      exact run_copy_none W t t' o.type e dp A dn dc m c ht hsz (by rw [hdn]; show min m (xs.length - lo) = 0; omega)
    · obtain ⟨ad, hA, hc⟩ := hR.2.2 (by omega)
      have hne : c0 ≠ lo := by omega
      have hdp' : dp = some ⟨g, lo, none⟩ := by rw [hdp, if_neg hne]; simp [add_at]
      have hcs1 : cur.size = c0 := by omega
      have hsrc : ∀ j u, (encs (Value.int k) ys')[j]? = some u → W.cell? (ad.add j) = some u := by
        intro j u hu
        have hj : j < ys'.length := by
          rcases Nat.lt_or_ge j ys'.length with h | h
          · exact h
          · rw [List.getElem?_eq_none (by rw [encs_length]; exact h)] at hu
            cases hu
        rw [encs_get (d := (0 : Int)) _ j hj] at hu
        rw [hc j (by omega), ← hu, hys]
        have : j < xs.length - lo := by omega
        simp [List.getD_eq_getElem?_getD, this]
      have hkl : (encs (Value.int k) ys').length = ys'.length := encs_length _
      have hr := run_copy_cells (P := P) W t t' o.type e g lo dn dc ad m c (encs (Value.int k) ys') ht hsz (by rw [hkl, hdn, hyl]; show min (xs.length - lo) m = min m (xs.length - lo); omega) hsrc
        (fun j hj => by rw [cell_of_row W g _ cur e (0, 0) hh]; simp; omega) (fun j _ => bkf9_ hh _) (by intro u hu; simp only [encs, List.mem_map] at hu; obtain ⟨q, _, rfl⟩ := hu; rfl)
      obtain ⟨cur', h3, h4, h5⟩ := setCells_row (encs (Value.int k) ys') lo W cur hh (by rw [hkl]; omega)
      obtain ⟨s1, s2, s3, s4⟩ := setCells_same g (encs (Value.int k) ys') lo W
      have hln : (splice xs lo ys').length = xs.length := length_splice _ _ _ (by omega)
      refine fin _ (by rw [hdp', hA, hr, hkl]) (Kd.R_of_own ?_ HO.1) ⟨s1, s2, s3, by rw [s4]; exact Nat.le_refl _, fun k _ hk => setCells_far _ _ k (fun he => hk (by rw [he]; simp [Value.ownBlock]))⟩
      rw [hln]
      refine ⟨by rw [encs_length, hln, Nat.mul_one], .inr ⟨g, c0, cur', rfl, hb, h3, hnc, hcm, by rw [h4, hcs], ?_⟩⟩
      have htk : cur.toList.take xs.length = encs (Value.int k) xs := by rw [← htake, Nat.mul_one]
      rw [h5, hkl, Nat.mul_one]
      have e1 : encs (Value.int k) (splice xs lo ys') = (encs (Value.int k) xs).take lo ++ (encs (Value.int k) ys' ++ (encs (Value.int k) xs).drop (lo + ys'.length)) := by simp [splice, encs, List.map_append, List.map_take, List.map_drop]
      rw [e1, ← htk, ← hkl]
      exact take_over_ _ _ _ _ (by omega) (by simp; omega)

theorem copy_own_ (k : IntKind) {Rr : Int → List Value → Prop} {w0 W : World} (base : Nat) (hgd : o.guard = none) (s x : Operand) (t t' : TypeId) (e : TypeId)
    (ho : o.op = .call { callee := .builtin .copy, args := #[s, x], argTypes := #[t, t'] })
    (ht : P.underlying t = some (.slice e)) (hsz : (P.info? e).map (·.size) = some 1)
    (v : Value) (xs : List Int) (ys : List Int) (A : Option Addr) (m c : Nat) (ok : Nat → Prop)
    (hs : a.eval s = v) (hx : a.eval x = .slice A m c)
    (HO : (Kd.int k).R e W base ok v xs) (HR : ReadsRow Rr (Kd.int k).sz W A m ys) (hKM : ∀ x cs, Rr x cs → (Kd.int k).K W x cs) (hfresh : ∀ k, W.heap.size ≤ k → ok k)
    (HB : Below base w0 W) (hbase : base ≤ W.heap.size)
    (h : ∀ w1, (Kd.int k).R e w1 base ok v (cpyAt xs 0 ys) → Below base w0 w1 → W.grownBy w1 v.ownBlock → (v.ownBlock = v.ownBlock ∨ False) → wpList P ops Q rest (a.put o.dst (goInt (ys.take (xs.length - 0)).length)) w1) :
    wpList P ops Q (o :: rest) a W := by
  have hv : ∃ A0 n c0, v = .slice A0 n c0 ∧ n = xs.length := by
    obtain ⟨_, inner, ⟨_, h2⟩, _⟩ := HO
    rcases h2 with ⟨rfl, hn⟩ | ⟨g, cap, cur, rfl, _⟩
    · exact ⟨none, 0, 0, rfl, hn.symm⟩
    · exact ⟨some ⟨g, 0, none⟩, xs.length, cap, rfl, rfl⟩
  obtain ⟨A0, n, c0, rfl, hn⟩ := hv
  refine copy_cut_ k base hgd s x t t' e ho ht hsz A0 n c0 xs 0 A0 n c0 ys A m c ok hs hx ?_ (by omega) HO HR hKM hfresh HB hbase h
  split
  · rfl
  · cases A0 <;> rfl
end

class Up (W W' : World) : Prop where
  bel : Below W.heap.size W W'
instance upRefl (W : World) : Up W W := ⟨Below.refl _ _⟩
instance upAlloc (W W' : World) (o : Obj) [h : Up W W'] : Up W (W'.alloc o) := ⟨below_alloc h.bel o⟩
instance upDrewN (W W' : World) (n : Nat) [h : Up W W'] : Up W (W'.drewN n) := ⟨pw_below_drewN h.bel n⟩
instance upDrew (W W' : World) [h : Up W W'] : Up W W'.drew := ⟨below_drew1 h.bel⟩
instance upSetDrewN (W : World) (n : Nat) (a : Addr) (v : Value) : Up (W.setCell a v) ((W.drewN n).setCell a v) := ⟨(pw_below_drewN (Below.refl _ (W.setCell a v)) n : Below _ _ ((W.setCell a v).drewN n))⟩
instance upSetDrew (W : World) (a : Addr) (v : Value) : Up (W.setCell a v) (W.drew.setCell a v) := ⟨(below_drew1 (Below.refl _ (W.setCell a v)) : Below _ _ ((W.setCell a v).drew))⟩
theorem rU_ {α : Type} {d : Kd α} {e base : Nat} {W W' : World} {ok : Nat → Prop} {v : Value} {xs : List α} [h : Up W W'] (g : d.R e W base ok v xs) : d.R e W' base ok v xs := Kd.R_below g h.bel
theorem cU_ {α : Type} {d : Kd α} {W W' : World} {A : Option Addr} {n : Nat} {xs : List α} [h : Up W W'] (g : d.C W A n xs) : d.C W' A n xs := Kd.C_below g h.bel
theorem bU_ {w W W' : World} [h : Up W W'] (g : Below w.heap.size w W) : Below w.heap.size w W' := below_step g h.bel
theorem bd_ {α β : Type} {o : Option α} {f : α → Option β} {b : β} {P : Prop} (K : ∀ a, Aside0 (o = some a) → f a = some b → P) (h : o.bind f = some b) : P := by
  obtain ⟨a, h1, h2⟩ := Option.bind_eq_some_iff.mp h
  exact K a ⟨h1⟩ h2
theorem it_ {α : Type} {c : Prop} [Decidable c] {a : Option α} {b : α} (h : (if c then a else none) = some b) : c ∧ a = some b := by
  by_cases hc : c
  · rw [if_pos hc] at h; exact ⟨hc, h⟩
  · rw [if_neg hc] at h; exact absurd h (by simp)
theorem od_ {p : Prop} [Decidable p] (h : decide p = true := by first | (with_reducible assumption) | assumption) : p := of_decide_eq_true h
theorem s1_ {α : Type} {xs : List α} {i : Nat} {a : α} : xs.toArray.setIfInBounds i a = (xs.set i a).toArray := List.setIfInBounds_toArray ..
theorem s2_ {α : Type} {x : α} {xs : List α} {a : α} : (x :: xs).set 0 a = a :: xs := List.set_cons_zero ..
theorem s3_ {α : Type} {x : α} {xs : List α} {n : Nat} {a : α} : (x :: xs).set (n + 1) a = x :: xs.set n a := List.set_cons_succ ..
theorem nx1_ {P A0 : Prop} (h0 : A0) (k : Aside0 A0 → P) : P := k ⟨h0⟩
theorem nx2_ {P A0 A1 : Prop} (h0 : A0) (h1 : A1) (k : Aside0 A0 → Aside0 A1 → P) : P := k ⟨h0⟩ ⟨h1⟩
theorem nx3_ {P A0 A1 A2 : Prop} (h0 : A0) (h1 : A1) (h2 : A2) (k : Aside0 A0 → Aside0 A1 → Aside0 A2 → P) : P := k ⟨h0⟩ ⟨h1⟩ ⟨h2⟩
theorem nx4_ {P A0 A1 A2 A3 : Prop} (h0 : A0) (h1 : A1) (h2 : A2) (h3 : A3) (k : Aside0 A0 → Aside0 A1 → Aside0 A2 → Aside0 A3 → P) : P := k ⟨h0⟩ ⟨h1⟩ ⟨h2⟩ ⟨h3⟩
theorem nx5_ {P A0 A1 A2 A3 A4 : Prop} (h0 : A0) (h1 : A1) (h2 : A2) (h3 : A3) (h4 : A4) (k : Aside0 A0 → Aside0 A1 → Aside0 A2 → Aside0 A3 → Aside0 A4 → P) : P := k ⟨h0⟩ ⟨h1⟩ ⟨h2⟩ ⟨h3⟩ ⟨h4⟩
theorem nx6_ {P A0 A1 A2 A3 A4 A5 : Prop} (h0 : A0) (h1 : A1) (h2 : A2) (h3 : A3) (h4 : A4) (h5 : A5) (k : Aside0 A0 → Aside0 A1 → Aside0 A2 → Aside0 A3 → Aside0 A4 → Aside0 A5 → P) : P := k ⟨h0⟩ ⟨h1⟩ ⟨h2⟩ ⟨h3⟩ ⟨h4⟩ ⟨h5⟩
theorem nx7_ {P A0 A1 A2 A3 A4 A5 A6 : Prop} (h0 : A0) (h1 : A1) (h2 : A2) (h3 : A3) (h4 : A4) (h5 : A5) (h6 : A6) (k : Aside0 A0 → Aside0 A1 → Aside0 A2 → Aside0 A3 → Aside0 A4 → Aside0 A5 → Aside0 A6 → P) : P := k ⟨h0⟩ ⟨h1⟩ ⟨h2⟩ ⟨h3⟩ ⟨h4⟩ ⟨h5⟩ ⟨h6⟩
theorem nx8_ {P A0 A1 A2 A3 A4 A5 A6 A7 : Prop} (h0 : A0) (h1 : A1) (h2 : A2) (h3 : A3) (h4 : A4) (h5 : A5) (h6 : A6) (h7 : A7) (k : Aside0 A0 → Aside0 A1 → Aside0 A2 → Aside0 A3 → Aside0 A4 → Aside0 A5 → Aside0 A6 → Aside0 A7 → P) : P := k ⟨h0⟩ ⟨h1⟩ ⟨h2⟩ ⟨h3⟩ ⟨h4⟩ ⟨h5⟩ ⟨h6⟩ ⟨h7⟩
theorem nx9_ {P A0 A1 A2 A3 A4 A5 A6 A7 A8 : Prop} (h0 : A0) (h1 : A1) (h2 : A2) (h3 : A3) (h4 : A4) (h5 : A5) (h6 : A6) (h7 : A7) (h8 : A8) (k : Aside0 A0 → Aside0 A1 → Aside0 A2 → Aside0 A3 → Aside0 A4 → Aside0 A5 → Aside0 A6 → Aside0 A7 → Aside0 A8 → P) : P := k ⟨h0⟩ ⟨h1⟩ ⟨h2⟩ ⟨h3⟩ ⟨h4⟩ ⟨h5⟩ ⟨h6⟩ ⟨h7⟩ ⟨h8⟩
theorem nx10_ {P A0 A1 A2 A3 A4 A5 A6 A7 A8 A9 : Prop} (h0 : A0) (h1 : A1) (h2 : A2) (h3 : A3) (h4 : A4) (h5 : A5) (h6 : A6) (h7 : A7) (h8 : A8) (h9 : A9) (k : Aside0 A0 → Aside0 A1 → Aside0 A2 → Aside0 A3 → Aside0 A4 → Aside0 A5 → Aside0 A6 → Aside0 A7 → Aside0 A8 → Aside0 A9 → P) : P := k ⟨h0⟩ ⟨h1⟩ ⟨h2⟩ ⟨h3⟩ ⟨h4⟩ ⟨h5⟩ ⟨h6⟩ ⟨h7⟩ ⟨h8⟩ ⟨h9⟩
theorem nx12_ {P A0 A1 A2 A3 A4 A5 A6 A7 A8 A9 A10 A11 : Prop} (h0 : A0) (h1 : A1) (h2 : A2) (h3 : A3) (h4 : A4) (h5 : A5) (h6 : A6) (h7 : A7) (h8 : A8) (h9 : A9) (h10 : A10) (h11 : A11) (k : Aside0 A0 → Aside0 A1 → Aside0 A2 → Aside0 A3 → Aside0 A4 → Aside0 A5 → Aside0 A6 → Aside0 A7 → Aside0 A8 → Aside0 A9 → Aside0 A10 → Aside0 A11 → P) : P := k ⟨h0⟩ ⟨h1⟩ ⟨h2⟩ ⟨h3⟩ ⟨h4⟩ ⟨h5⟩ ⟨h6⟩ ⟨h7⟩ ⟨h8⟩ ⟨h9⟩ ⟨h10⟩ ⟨h11⟩
theorem nx13_ {P A0 A1 A2 A3 A4 A5 A6 A7 A8 A9 A10 A11 A12 : Prop} (h0 : A0) (h1 : A1) (h2 : A2) (h3 : A3) (h4 : A4) (h5 : A5) (h6 : A6) (h7 : A7) (h8 : A8) (h9 : A9) (h10 : A10) (h11 : A11) (h12 : A12) (k : Aside0 A0 → Aside0 A1 → Aside0 A2 → Aside0 A3 → Aside0 A4 → Aside0 A5 → Aside0 A6 → Aside0 A7 → Aside0 A8 → Aside0 A9 → Aside0 A10 → Aside0 A11 → Aside0 A12 → P) : P := k ⟨h0⟩ ⟨h1⟩ ⟨h2⟩ ⟨h3⟩ ⟨h4⟩ ⟨h5⟩ ⟨h6⟩ ⟨h7⟩ ⟨h8⟩ ⟨h9⟩ ⟨h10⟩ ⟨h11⟩ ⟨h12⟩
theorem nx14_ {P A0 A1 A2 A3 A4 A5 A6 A7 A8 A9 A10 A11 A12 A13 : Prop} (h0 : A0) (h1 : A1) (h2 : A2) (h3 : A3) (h4 : A4) (h5 : A5) (h6 : A6) (h7 : A7) (h8 : A8) (h9 : A9) (h10 : A10) (h11 : A11) (h12 : A12) (h13 : A13) (k : Aside0 A0 → Aside0 A1 → Aside0 A2 → Aside0 A3 → Aside0 A4 → Aside0 A5 → Aside0 A6 → Aside0 A7 → Aside0 A8 → Aside0 A9 → Aside0 A10 → Aside0 A11 → Aside0 A12 → Aside0 A13 → P) : P := k ⟨h0⟩ ⟨h1⟩ ⟨h2⟩ ⟨h3⟩ ⟨h4⟩ ⟨h5⟩ ⟨h6⟩ ⟨h7⟩ ⟨h8⟩ ⟨h9⟩ ⟨h10⟩ ⟨h11⟩ ⟨h12⟩ ⟨h13⟩
theorem nx15_ {P A0 A1 A2 A3 A4 A5 A6 A7 A8 A9 A10 A11 A12 A13 A14 : Prop} (h0 : A0) (h1 : A1) (h2 : A2) (h3 : A3) (h4 : A4) (h5 : A5) (h6 : A6) (h7 : A7) (h8 : A8) (h9 : A9) (h10 : A10) (h11 : A11) (h12 : A12) (h13 : A13) (h14 : A14) (k : Aside0 A0 → Aside0 A1 → Aside0 A2 → Aside0 A3 → Aside0 A4 → Aside0 A5 → Aside0 A6 → Aside0 A7 → Aside0 A8 → Aside0 A9 → Aside0 A10 → Aside0 A11 → Aside0 A12 → Aside0 A13 → Aside0 A14 → P) : P := k ⟨h0⟩ ⟨h1⟩ ⟨h2⟩ ⟨h3⟩ ⟨h4⟩ ⟨h5⟩ ⟨h6⟩ ⟨h7⟩ ⟨h8⟩ ⟨h9⟩ ⟨h10⟩ ⟨h11⟩ ⟨h12⟩ ⟨h13⟩ ⟨h14⟩
theorem gb_ {α : Type} {a b : α} (h : a = b := by first | rfl | (simp; done) | (simp [*]; done)) : a = b := h
theorem ak {p : Prop} (h : p) : Aside0 p := ⟨h⟩
section
variable {P : Program} {ops : Array Oper} {rest : List Oper} {oi : Oper} {a : Act} {w : World} {Q : Exit → Act → World → Prop}
theorem gl_ (N : Option Tmp) {f : FuncId} {fn : Func} {as : Array Operand} {ts : Array TypeId} (hf : P.funcs[f]? = some fn) (args : Array Value)
    (h : Calls P f args w fun e w' => ∃ v, e = .returned v ∧ wpList P ops Q rest (a.put N v) w')
    (hd : oi.dst = N := by rfl) (hg : oi.guard = none := by rfl) (hname : (fn.name == "runtime.NumGoroutine") = false := by kernel_rfl) (hb : fn.body.isSome = true := by rfl)
    (hop : oi.op = .call { callee := .value (.func f), args := as, argTypes := ts } := by rfl) (hargs : as.map a.eval = args := by (try simp only [List.map_toArray, List.map_cons, List.map_nil]); first | done | rfl | (simp only [List.length_drop, List.length_take]; rfl)) : wpList P ops Q (oi :: rest) a w :=
  goesL_ N hd hg hf hname hb args hop hargs h
end
theorem bd2_ {α α' β : Type} {o : Option (α × α')} {f : α × α' → Option β} {b : β} {P : Prop} (K : ∀ x y, Aside0 (o = some (x, y)) → f (x, y) = some b → P) (h : o.bind f = some b) : P := bd_ (fun ⟨x, y⟩ => K x y) h
theorem bd3_ {α α' α'' β : Type} {o : Option (α × α' × α'')} {f : α × α' × α'' → Option β} {b : β} {P : Prop} (K : ∀ x y z, Aside0 (o = some (x, y, z)) → f (x, y, z) = some b → P) (h : o.bind f = some b) : P := bd_ (fun ⟨x, y, z⟩ => K x y z) h
def bv (n m : Nat) : Array Bool := ((List.range n).map m.testBit).toArray
section
variable {P : Program} {ops : Array Oper} {Q : Exit → Act → World → Prop} {md : Region.Mode} {S : World → Prop} {ds : List Nat}
end
end Go.Proofs.YtbjeemlbjkmhiaaDoor
