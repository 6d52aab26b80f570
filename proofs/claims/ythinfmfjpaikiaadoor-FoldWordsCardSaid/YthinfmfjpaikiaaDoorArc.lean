/- Boxes kept; copying into an array. -/
import Derived.Test.YthinfmfjpaikiaaDoorArr
import Derived.ChangeKeysEq
import Derived.Laws.StructEq
namespace Go.Proofs.YthinfmfjpaikiaaDoor.Q
open Go.RowKit Go.Proofs.YthinfmfjpaikiaaDoorW.PrintWords Go.Proofs.YthinfmfjpaikiaaDoorW.PrintLast Go.Proofs.YthinfmfjpaikiaaDoorW.PrintMore
theorem bk_ {w w1 : World} {B : Nat} {o : Obj} (h : w.heap[B]? = some o) (hb : Below w.heap.size w w1) : w1.heap[B]? = some o := (hb.block B (Array.getElem?_eq_some_iff.1 h).1).trans h
theorem bk_lt {w : World} {B : Nat} {o : Obj} (h : w.heap[B]? = some o) : B < w.heap.size := (Array.getElem?_eq_some_iff.1 h).1
theorem bk_grown {w w1 : World} {B g : Nat} {o : Obj} (h : w.heap[B]? = some o) (hg : w.grownBy w1 (some g)) (hn : B ≠ g) : w1.heap[B]? = some o := (hg.block B (bk_lt h) (fun e => hn (Option.some.inj e))).trans h
theorem zA8 : (∀ w, (zeroValue 25).run Tryd.prog w = .ok (arW .u64 (List.replicate 8 0)) w) ∧ (Tryd.prog.info? 25).map (·.size) = some 8 := zero_of_info (by kernel_rfl)
theorem uA8 : Tryd.prog.underlying 25 = some (.array 8 22) := by kernel_rfl
theorem sU : (Tryd.prog.info? 22).map (·.size) = some 1 := by kernel_rfl
theorem arX_ {r : List Int} (h : r.length = 8) : arW .u64 r = .agg #[.int .u64 (bco r 0), .int .u64 (bco r 1), .int .u64 (bco r 2), .int .u64 (bco r 3), .int .u64 (bco r 4), .int .u64 (bco r 5), .int .u64 (bco r 6), .int .u64 (bco r 7)] := by
  match r, h with
  | [_, _, _, _, _, _, _, _], _ => rfl
def pad8 (r : List Int) : List Int := [bco r 0, bco r 1, bco r 2, bco r 3, bco r 4, bco r 5, bco r 6, bco r 7]
theorem eqi_cons {P : Program} {w : World} {d e c i : Nat} {is : List Nat} {xs ys : Array Value} {a b : Value} {r s : Bool} (ha : (part e xs (i * c)).run P w = .ok a w) (hb : (part e ys (i * c)).run P w = .ok b w) (he : (Op.equalIn d e a b).run P w = .ok r w)
    (hs : (Op.eqItems d e c xs ys is).run P w = .ok s w) : (Op.eqItems d e c xs ys (i :: is)).run P w = .ok (r && s) w := by
  rw [Op.eqItems]
  simp only [Sem.run_bind, ha, hb, he, Result.andThen_ok]
  cases r
  · simp
  · simpa using hs
theorem eqA8 (d : Nat) (w : World) (x0 x1 x2 x3 x4 x5 x6 x7 y0 y1 y2 y3 y4 y5 y6 y7 : Int) :
    (Op.equalIn (d + 2) 25 (.agg #[.int .u64 x0, .int .u64 x1, .int .u64 x2, .int .u64 x3, .int .u64 x4, .int .u64 x5, .int .u64 x6, .int .u64 x7]) (.agg #[.int .u64 y0, .int .u64 y1, .int .u64 y2, .int .u64 y3, .int .u64 y4, .int .u64 y5, .int .u64 y6, .int .u64 y7])).run Tryd.prog w = .ok (x0 == y0 && (x1 == y1 && (x2 == y2 && (x3 == y3 && (x4 == y4 && (x5 == y5 && (x6 == y6 && (x7 == y7)))))))) w := by
  obtain ⟨i, hi⟩ : ∃ i, Tryd.prog.info? 22 = some i := by
    cases h : Tryd.prog.info? 22 with
    | none => have := sU; rw [h] at this; simp at this
    | some i => exact ⟨i, rfl⟩
  have hc : Tryd.prog.cellsOf 22 = 1 := by kernel_rfl
  have hu := Tryd.underlying22
  have e7 : (x0 == y0 && (x1 == y1 && (x2 == y2 && (x3 == y3 && (x4 == y4 && (x5 == y5 && (x6 == y6 && (x7 == y7)))))))) = (x0 == y0 && (x1 == y1 && (x2 == y2 && (x3 == y3 && (x4 == y4 && (x5 == y5 && (x6 == y6 && (x7 == y7 && true)))))))) := by rw [Bool.and_true]
  rw [run_equalIn_array w (d + 1) _ _ uA8 hi, hc, show List.range 8 = [0, 1, 2, 3, 4, 5, 6, 7] from rfl, e7]
  refine eqi_cons (a := .int .u64 x0) (b := .int .u64 y0) (r := x0 == y0) (by go_simp) (by go_simp) (by go_simp) ?_
  refine eqi_cons (a := .int .u64 x1) (b := .int .u64 y1) (r := x1 == y1) (by go_simp) (by go_simp) (by go_simp) ?_
  refine eqi_cons (a := .int .u64 x2) (b := .int .u64 y2) (r := x2 == y2) (by go_simp) (by go_simp) (by go_simp) ?_
  refine eqi_cons (a := .int .u64 x3) (b := .int .u64 y3) (r := x3 == y3) (by go_simp) (by go_simp) (by go_simp) ?_
  refine eqi_cons (a := .int .u64 x4) (b := .int .u64 y4) (r := x4 == y4) (by go_simp) (by go_simp) (by go_simp) ?_
  refine eqi_cons (a := .int .u64 x5) (b := .int .u64 y5) (r := x5 == y5) (by go_simp) (by go_simp) (by go_simp) ?_
  refine eqi_cons (a := .int .u64 x6) (b := .int .u64 y6) (r := x6 == y6) (by go_simp) (by go_simp) (by go_simp) ?_
  refine eqi_cons (a := .int .u64 x7) (b := .int .u64 y7) (r := x7 == y7) (by go_simp) (by go_simp) (by go_simp) ?_
  simp [Op.eqItems]
theorem setCell_grown (w : World) (g i : Nat) (v : Value) : w.grownBy (w.setCell ⟨g, i, none⟩ v) (some g) := ⟨rfl, rfl, rfl, by simp [World.setCell], fun k _ hn => Below.heap_setCell w ⟨g, i, none⟩ v k (fun e => hn (by rw [e]))⟩
theorem exec_slice_ {P : Program} {oi : Oper} {ρ : Operand → Value} {t n e B : Nat} {x : Operand} (hop : oi.op = .slice t x none none none) (hx : ρ x = .pointer (some ⟨B, 0, none⟩)) (hu : P.underlying t = some (.array n e)) (he : (P.info? e).map (·.size) = some 1) (w : World) :
    (execOp ρ oi).run P w = .ok (.value (.slice (some ⟨B, 0, none⟩) n n)) w := by
  have hs : (Instr.sliceAt t (.pointer (some ⟨B, 0, none⟩)) none none none).run P w = .ok (.slice (some ⟨B, 0, none⟩) n n) w := by
    cases hq : P.info? e with
    | none => simp [hq] at he
    | some i =>
      have hs : i.size = 1 := by simpa [hq] using he
      simp [Instr.sliceAt, run_underlying hu w, Instr.sureAddr, Instr.sliceBounds, sizeOf, typeInfo, hq, Addr.add]
  unfold execOp
  simp only [hop, hx, Option.map_none, Sem.run_bind, hs, Sem.run_pure, Result.andThen_ok]
section
variable {P : Program} {ops : Array Oper} {rest : List Oper} {o : Oper} {a : Act} {Q : Exit → Act → World → Prop}
theorem ev_copy_ {W : World} (N : Option Tmp) (hd : o.dst = N) (hgd : o.guard = none) (s x : Operand) (t t' e T B : Nat) (xs ys : List Int) (A : Option Addr) (m c : Nat)
    (ho : o.op = .call { callee := .builtin .copy, args := #[s, x], argTypes := #[t, t'] })
    (ht : P.underlying t = some (.slice e)) (hsz : (P.info? e).map (·.size) = some 1)
    (hs : a.eval s = .slice (some ⟨B, 0, none⟩) xs.length xs.length) (hx : a.eval x = .slice A m c)
    (HA : Arr W B T xs) (HC : Kd.C (Kd.int .u64) W A m ys)
    (h : ∀ w1, Arr w1 B T (cpyAt xs 0 ys) → W.grownBy w1 (some B) → (∀ base w0, base ≤ B → Below base w0 W → Below base w0 w1) → wpList P ops Q rest (a.put N (goInt (ys.take xs.length).length)) w1) :
    wpList P ops Q (o :: rest) a W := by
  subst hd
  have hR := Kd.reads_of_C (enc := Value.int .u64) (d := (0 : Int)) (h1 := fun _ => rfl) HC
  have hm : ys.length = m := hR.1
  obtain ⟨ys', hys⟩ : ∃ ys', ys' = ys.take xs.length := ⟨_, rfl⟩
  have hyl : ys'.length = min xs.length m := by rw [hys, List.length_take, hm]
  have hcp : cpyAt xs 0 ys = splice xs 0 ys' := by rw [hys]; rfl
  rw [hcp, ← hys] at h
  have fin : ∀ w1, (Builtin.copy_ #[t, t'] o.type #[.slice (some ⟨B, 0, none⟩) xs.length xs.length, .slice A m c]).run P W = .ok (goInt ys'.length) w1 → Arr w1 B T (splice xs 0 ys') → W.grownBy w1 (some B) → wpList P ops Q (o :: rest) a W := by
    intro w1 hr hrow hg
    refine wpList_plain hgd fun K hK => ?_
    unfold Oper.wp execOp
    simp only [ho, resolve, invoke, builtin, Sem.run_bind, Sem.run_pure, Result.andThen_ok, List.map_toArray, List.map_cons, List.map_nil, hs, hx, hr]
    exact hK _ _ (h w1 hrow hg (fun base w0 hb hbb => hbb.grown hg (Nat.le_trans hb (Nat.le_of_lt HA.lt)) (fun k hk => by cases hk; exact hb)))
  rcases Nat.eq_zero_or_pos ys'.length with h0 | hp
  · have h0' : ys' = [] := List.eq_nil_of_length_eq_zero h0
    refine fin W ?_ (by rw [h0']; simpa [splice] using HA) (World.grownBy.refl W _)
    rw [h0']
    exact run_copy_none W t t' o.type e _ A _ _ m c ht hsz (by show min m xs.length = 0; omega)
  · obtain ⟨ad, hA, hc⟩ := hR.2.2 (by omega)
    have hsrc : ∀ j u, (encs (Value.int .u64) ys')[j]? = some u → W.cell? (ad.add j) = some u := by
      intro j u hu
      have hj : j < ys'.length := by
        rcases Nat.lt_or_ge j ys'.length with h | h
        · exact h
        · rw [List.getElem?_eq_none (by rw [encs_length]; exact h)] at hu
          cases hu
      rw [encs_get (d := (0 : Int)) _ j hj] at hu
      rw [hc j (by omega), ← hu, hys]
      have : j < xs.length := by omega
      simp [List.getD_eq_getElem?_getD, this]
    have hkl : (encs (Value.int .u64) ys').length = ys'.length := encs_length _
    have hr := run_copy_cells (P := P) W t t' o.type e B 0 xs.length xs.length ad m c (encs (Value.int .u64) ys') ht hsz (by rw [hkl, hyl, Nat.min_comm]) hsrc
      (fun j hj => by rw [cell_of_row W B _ (arC xs) T (0, 0) HA]; simp [arC_size]; omega) (fun j _ => blk_frozen HA _) (by intro u hu; simp only [encs, List.mem_map] at hu; obtain ⟨q, _, rfl⟩ := hu; rfl)
    obtain ⟨cur', h3, h4, h5⟩ := setCells_row (encs (Value.int .u64) ys') 0 W (arC xs) HA (by rw [hkl, arC_size]; omega)
    obtain ⟨s1, s2, s3, s4⟩ := setCells_same B (encs (Value.int .u64) ys') 0 W
    refine fin _ (by rw [hA, hr, hkl]) ?_ ⟨s1, s2, s3, by rw [s4]; exact Nat.le_refl _, fun k _ hk => setCells_far _ _ k (fun he => hk (by rw [he]))⟩
    have e1 : cur' = arC (splice xs 0 ys') := by
      apply Array.toList_inj.1
      rw [h5]
      simp [arC, splice, encs, List.map_append, List.map_drop]
    unfold Arr
    rw [← e1]
    exact h3
end
end Go.Proofs.YthinfmfjpaikiaaDoor.Q
