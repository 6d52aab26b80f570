/- Small laws for numbers of limbs: a cut with a capacity. -/
import Derived.Test.YtbjeemlbjkmhiaaDoorAid
import Derived.Test.YtbjeemlbjkmhiaaDoorWMore
import Derived.Test.YtbjeemlbjkmhiaaDoorWAt
import Derived.Laws.Cover3
namespace Go.Proofs.YtbjeemlbjkmhiaaDoor.Q
open Go.RowKit Go.Proofs.YtbjeemlbjkmhiaaDoorW.PrintWords Go.Proofs.YtbjeemlbjkmhiaaDoorW.PrintLast Go.Proofs.YtbjeemlbjkmhiaaDoorW.PrintMore
theorem cutc_to {P : Program} (t e : TypeId) (kh : IntKind) {i : TypeInfo} (ht : P.underlying t = some (.slice e)) (hi : P.info? e = some i) (A : Option Addr) (n c : Nat) (j : Int) (h0 : 0 ≤ j) (hm : j ≤ n) (hc : n ≤ c) :
    ∀ W : World, (Instr.slice t (.slice A n c) none (some (.int kh j)) (some (.int kh j))).run P W = .ok (.slice A j.toNat j.toNat) W := by
  intro W
  have hel : P.elem t = e := by simp [Program.elem, ht]
  have hu : P.underlying t = some (.slice (P.elem t)) := by rw [hel]; exact ht
  have ha : (A.map fun x => x.add 0) = A := by cases A <;> simp [Addr.add]
  rw [run_slice_hm W t A n c hu kh kh j j h0 (Int.le_refl _) (by omega), hel]
  simp [sizeOf, typeInfo, hi, sliced, Result.andThen, ha]
section
open Go.Proofs.YtbjeemlbjkmhiaaDoorW.PrintWords.Kd
variable {P : Program} {ops : Array Oper} {rest : List Oper} {o : Oper} {a : Act} {Q : Exit → Act → World → Prop} {α : Type}
end
theorem eql_nil_ {P : Program} (t e : TypeId) (h : P.underlying t = some (.slice e)) (A : Option Addr) (n c : Nat) : ∀ w, (binOp .eql t (.slice A n c) (.slice none 0 0)).run P w = .ok (.bool A.isNone) w := fun w => by
  simp only [binOp]
  simp [run_equal_slice_nil w t e A n c h]
theorem cutw_to {P : Program} (t e : TypeId) {i : TypeInfo} (ht : P.underlying t = some (.slice e)) (hi : P.info? e = some i) (hsz : i.size = 1) (g : Nat) (n c : Nat) (j m : Int) (N : Nat) (h0 : 0 ≤ j) (hN : m = j + N) (hp : 0 < N) (hm : m ≤ n) (hc : n ≤ c) :
    ∀ W : World, (Instr.slice t (.slice (some ⟨g, 0, none⟩) n c) (some (.int .i64 j)) (some (.int .i64 m)) (some (.int .i64 m))).run P W = .ok (.slice (some ⟨g, j.toNat, none⟩) N N) W := by
  intro W
  have hel : P.elem t = e := by simp [Program.elem, ht]
  have hu : P.underlying t = some (.slice (P.elem t)) := by rw [hel]; exact ht
  have e1 : m.toNat - j.toNat = N := by omega
  have e2 : m.toNat ≠ j.toNat := by omega
  rw [run_slice_lhm W t (some ⟨g, 0, none⟩) n c hu .i64 .i64 .i64 j m m h0 (by omega) (Int.le_refl _) (by omega), hel]
  by_cases hj : j.toNat = 0
  · have e3 : m.toNat = N := by omega
    simp [Go.sizeOf, typeInfo, hi, sliced, Result.andThen, e3, Addr.add, hj]
  · simp [Go.sizeOf, typeInfo, hi, hsz, sliced, Result.andThen, e1, e2, Addr.add, hj]
theorem hold_ {p : Prop} (h : Aside0 p) : p := h.out
section
variable {P : Program} {ops : Array Oper} {Q : Exit → Act → World → Prop}
theorem gclo_ {rest : List Oper} {oi : Oper} {a : Act} {w : World} (N : Option Tmp) (hd : oi.dst = N) (hg : oi.guard = none) {f : FuncId} {fn : Func} {t : Tmp} {xs : Array Operand} {ts : Array TypeId} {cap : Array Value} (hf : P.funcs[f]? = some fn) (hname : (fn.name == "runtime.NumGoroutine") = false) (hb : fn.body.isSome = true) (args : Array Value)
    (hop : oi.op = .call { callee := .value (.tmp t), args := xs, argTypes := ts }) (hfun : a.eval (.tmp t) = .func (Fn.func f) #[] cap) (hargs : xs.map a.eval ++ cap = args)
    (h : Calls P f args w fun e w' => ∃ v, e = .returned v ∧ wpList P ops Q rest (a.put N v) w') : wpList P ops Q (oi :: rest) a w := by
  refine wpList_plain hg fun K hK => ?_
  have he := enters_ hf hname hb args w
  have hrun : (execOp a.eval oi).run P w = .ok (.enter f args) w := by
    unfold execOp
    simp [hop, resolve, Deferred.ofValue, invoke, hfun, hargs, he]
  unfold Oper.wp
  rw [hrun, Oper.upon_enter]
  refine h.mono fun e w'' hh => ?_
  obtain ⟨v, rfl, hk⟩ := hh
  subst hd
  exact hK _ _ hk
end
namespace Pd
def R (off cf : Nat) (pre post : List Int) (e : Nat) (w : World) (base : Nat) (ok : Nat → Prop) (v : Value) (xs : List Int) : Prop :=
  (∀ k, v.ownBlock = some k → ok k) ∧ off = pre.length ∧ ∃ g c, v = .slice (some ⟨g, off, none⟩) xs.length c ∧ xs.length ≤ c ∧ (Kd.int .u32).R e w base ok (.slice (some ⟨g, 0, none⟩) (pre ++ (xs ++ post)).length cf) (pre ++ (xs ++ post))
section
variable {off cf e base n c g m : Nat} {pre post xs : List Int} {w w1 w' : World} {ok ok' : Nat → Prop} {v : Value} {A : Option Addr}
theorem R_mono (h : R off cf pre post e w base ok v xs) (hok : ∀ k, ok k → ok' k) : R off cf pre post e w base ok' v xs := by
  obtain ⟨h0, ho, g, c, hv, hc, hr⟩ := h
  exact ⟨fun k hk => hok k (h0 k hk), ho, g, c, hv, hc, Kd.R_mono hr hok⟩
theorem R_slice (h : R off cf pre post e w base ok v xs) : ∃ A c, v = .slice A xs.length c := by
  obtain ⟨h0, ho, g, c, hv, hc, hr⟩ := h
  exact ⟨_, c, hv⟩
theorem R_form (h : R off cf pre post e w base ok v xs) (hp : 0 < xs.length) : ∃ g cap, v = .slice (some ⟨g, off, none⟩) xs.length cap ∧ base ≤ g ∧ g < w.heap.size ∧ ∃ cells, w.heap[g]? = some (.cells cells e (0, 0)) := by
  obtain ⟨h0, ho, g, c, hv, hc, hr⟩ := h
  obtain ⟨g', cap, hv', hb, hl, hcs⟩ := Kd.R_form hr (by simp; omega)
  injection hv' with ha
  injection ha with ha
  injection ha with ha
  subst ha
  exact ⟨g, c, hv, hb, hl, hcs⟩
theorem get_mid {pre post xs : List Int} {j : Nat} (hj : j < xs.length) : (pre ++ (xs ++ post)).getD (pre.length + j) 0 = xs.getD j 0 := by
  simp [List.getD, List.getElem?_append_right, List.getElem?_append_left hj]
theorem R_celln (_d : Int) (h : R off cf pre post e w base ok (.slice (some ⟨g, off, none⟩) n c) xs) (i : Int) (h0 : 0 ≤ i) (hi : i < n) : w.cell? ⟨g, off + i.toNat, none⟩ = some (.int .u32 (rd xs i)) ∧ w.frozen? ⟨g, off + i.toNat, none⟩ = false := by
  obtain ⟨h1, ho, g', c', hv, hc, hr⟩ := h
  injection hv with ha hn hcc
  injection ha with ha
  injection ha with ha
  subst ha
  subst hn
  have hq := Kd.R_celln (enc := Value.int .u32) (h1 := fun _ => rfl) (0 : Int) hr ((off + i.toNat : Nat) : Int) (by omega) (by simp; omega)
  rw [Int.toNat_natCast] at hq
  refine ⟨?_, hq.2⟩
  rw [hq.1]
  show some (Value.int .u32 ((pre ++ (xs ++ post)).getD ((off + i.toNat : Nat) : Int).toNat 0)) = some (Value.int .u32 (xs.getD i.toNat 0))
  rw [Int.toNat_natCast, ho, get_mid (by omega)]
theorem R_reads' (h : R off cf pre post e w base ok (.slice A n c) xs) : n = xs.length ∧ n ≤ c ∧ (Kd.int .u32).C w A xs.length xs := by
  have h' := h
  obtain ⟨h1, ho, g', c', hv, hc, hr⟩ := h
  injection hv with ha hn hcc
  subst ha; subst hn; subst hcc
  have hm := (Kd.R_reads' hr).2.2.2.1
  refine ⟨rfl, hc, rfl, by simp at hm; omega, fun hp => ⟨_, rfl, fun j p hj => ⟨[.int .u32 p], rfl, rfl, fun i u hu => ?_⟩⟩⟩
  have hjl : j < xs.length := (List.getElem?_eq_some_iff.1 hj).1
  obtain rfl : i = 0 := by
    cases i with
    | zero => rfl
    | succ i => simp at hu
  have hu' : Value.int .u32 p = u := by simpa using hu
  have hq := (R_celln 0 h' (j : Int) (by omega) (by omega)).1
  rw [Int.toNat_natCast] at hq
  rw [← hu', show (Kd.int .u32).sz = 1 from rfl, Nat.mul_one, Nat.add_zero, add_at, hq]
  simp [rd, List.getD, hj]
theorem R_step (h : R off cf pre post e w base ok v xs) (hs : ∀ u ys, (Kd.int .u32).R e w base ok u ys → (Kd.int .u32).R e w1 base ok u ys) : R off cf pre post e w1 base ok v xs := by
  obtain ⟨h0, ho, g, c, hv, hc, hr⟩ := h
  exact ⟨h0, ho, g, c, hv, hc, hs _ _ hr⟩
theorem R_below (h : R off cf pre post e w base ok v xs) (hb : Below w.heap.size w w1) : R off cf pre post e w1 base ok v xs := R_step h fun _ _ hr => Kd.R_below hr hb
theorem R_alloc (h : R off cf pre post e w base ok v xs) (o : Obj) : R off cf pre post e (w.alloc o) base ok v xs := R_step h fun _ _ hr => Kd.R_alloc hr o
theorem R_drew (h : R off cf pre post e w base ok v xs) : R off cf pre post e w.drew base ok v xs := R_step h fun _ _ hr => Kd.R_drew hr
theorem R_drewN (h : R off cf pre post e w base ok v xs) (m : Nat) : R off cf pre post e (w.drewN m) base ok v xs := R_step h fun _ _ hr => Kd.R_drewN hr m
theorem R_at (hq : w.drewN m = w') (h : R off cf pre post e w base ok v xs) : R off cf pre post e w' base ok v xs := by subst hq; exact R_drewN h m
theorem ix_ {i : Int} {n : Nat} (h0 : 0 ≤ i) (h1 : i < (n : Int)) : i.toNat < n := by omega
theorem R_putg (h : R off cf pre post e w base ok (.slice (some ⟨g, off, none⟩) n c) xs) (i : Int) (hi : i.toNat < xs.length) (x : Int) : R off cf pre post e (w.setCell ⟨g, off + i.toNat, none⟩ (.int .u32 x)) base ok (.slice (some ⟨g, off, none⟩) n c) (xs.set i.toNat x) ∧ w.grownBy (w.setCell ⟨g, off + i.toNat, none⟩ (.int .u32 x)) (some g) := by
  obtain ⟨h1, ho, g', c', hv, hc, hr⟩ := h
  injection hv with ha hn hcc
  injection ha with ha
  injection ha with ha
  subst ha; subst hn; subst hcc
  have hq := Kd.R_putg (enc := Value.int .u32) (h1 := fun _ => rfl) hr ((off + i.toNat : Nat) : Int) x
  rw [Int.toNat_natCast] at hq
  have he : (pre ++ (xs ++ post)).set (off + i.toNat) x = pre ++ (xs.set i.toNat x ++ post) := by
    rw [ho, List.set_append_right _ _ (by omega), Nat.add_sub_cancel_left, List.set_append_left _ _ hi]
  rw [he] at hq
  refine ⟨⟨h1, ho, g, c, by rw [List.length_set], by rw [List.length_set]; exact hc, ?_⟩, hq.2⟩
  have hl : (pre ++ (xs ++ post)).length = (pre ++ (xs.set i.toNat x ++ post)).length := by simp
  rw [hl] at hq
  exact hq.1
end
end Pd
end Go.Proofs.YtbjeemlbjkmhiaaDoor.Q
