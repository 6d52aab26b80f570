/- Show and Read of the program. -/
import Derived.Test.YtjjjoepnlhpjdaaDoorTxt3
import Derived.Lib.CountLaws
import Derived.Test.YtjjjoepnlhpjdaaDoorQ2
import Derived.Test.YtjjjoepnlhpjdaaDoorQ3
namespace Go.Proofs.YtjjjoepnlhpjdaaDoor.Pure
open Go.RowKit Go.Proofs.YtjjjoepnlhpjdaaDoor.Q Go.Proofs.YtjjjoepnlhpjdaaDoor.Num Go.Proofs.YtjjjoepnlhpjdaaDoor.Pol Go.Proofs.YtjjjoepnlhpjdaaDoorW.PrintWords Go.Proofs.YtjjjoepnlhpjdaaDoorW.PrintLast Go.Proofs.YtjjjoepnlhpjdaaDoorW.PrintMore

def bA (l : List UInt8) : ByteArray := ⟨l.toArray⟩
theorem bA_append (l r : List UInt8) : bA l ++ bA r = bA (l ++ r) := by
  apply ByteArray.ext
  simp [bA, ByteArray.data_append]
theorem bA_size (l : List UInt8) : (bA l).size = l.length := by simp [bA, ByteArray.size]
theorem bA_left (l r : List UInt8) : (bA (l ++ r)).extract 0 l.length = bA l := by
  apply ByteArray.ext
  simp [bA, ByteArray.data_extract]
theorem bA_right (l r : List UInt8) (n : Nat) (h : n = (l ++ r).length) : (bA (l ++ r)).extract l.length n = bA r := by
  apply ByteArray.ext
  simp [bA, ByteArray.data_extract, h]
theorem index_at : ∀ (l r : List UInt8), (∀ x ∈ l, x ≠ 47) → Go.Lib.index (l ++ 47 :: r) [47] = l.length
  | [], r, _ => by
    show Go.Lib.index (47 :: r) [47] = 0
    unfold Go.Lib.index
    simp
  | x :: l, r, h => by
    have h1 := h x List.mem_cons_self
    have ih := index_at l r fun y hy => h y (List.mem_cons_of_mem _ hy)
    show Go.Lib.index (x :: (l ++ 47 :: r)) [47] = _
    unfold Go.Lib.index
    rw [ih]
    have e : ([47] : List UInt8).isPrefixOf (x :: (l ++ 47 :: r)) = false := by
      simp [List.isPrefixOf]
      exact fun e => h1 e.symm
    rw [e, if_neg (by decide), if_neg (by simp), List.length_cons]
    omega
theorem index_no : ∀ (l : List UInt8), (∀ x ∈ l, x ≠ 47) → Go.Lib.index l [47] = -1
  | [], _ => rfl
  | x :: l, h => by
    have h1 := h x List.mem_cons_self
    have ih := index_no l fun y hy => h y (List.mem_cons_of_mem _ hy)
    unfold Go.Lib.index
    rw [ih]
    have e : ([47] : List UInt8).isPrefixOf (x :: l) = false := by
      simp [List.isPrefixOf]
      exact fun e => h1 e.symm
    rw [e, if_neg (by decide), if_pos (by decide)]
theorem split_two {l r : List UInt8} (hl : ∀ x ∈ l, x ≠ 47) (hr : ∀ x ∈ r, x ≠ 47) : Go.Lib.splitB (⟨#[47]⟩ : ByteArray) 0 (Go.Lib.countB (bA (l ++ 47 :: r)) (⟨#[47]⟩ : ByteArray)) (bA (l ++ 47 :: r)) = [bA l, bA r] := by
  have i1 : Go.Lib.indexB (bA (l ++ 47 :: r)) (⟨#[47]⟩ : ByteArray) = (l.length : Int) := index_at l r hl
  have i2 : Go.Lib.indexB (bA r) (⟨#[47]⟩ : ByteArray) = -1 := index_no r hr
  have z : (⟨#[47]⟩ : ByteArray).size = 1 := rfl
  have x1 : (bA (l ++ 47 :: r)).extract (l.length + 1) (bA (l ++ 47 :: r)).size = bA r := by
    have e : l ++ 47 :: r = (l ++ [47]) ++ r := by simp
    rw [e]
    have := bA_right (l ++ [47]) r (bA ((l ++ [47]) ++ r)).size (bA_size _)
    rwa [List.length_append] at this
  rw [Go.Lib.countB_hit _ _ l.length (by rw [z]; exact Nat.le_refl 1) i1, z, x1, Go.Lib.countB_miss _ _ i2, show 1 + 0 = 0 + 1 from rfl, Go.Lib.splitB_hit _ _ 0 _ l.length i1, Nat.add_zero, bA_left, z, x1, Go.Lib.splitB_zero]
theorem dt_no {l : List Int} (hd : Dt l) : ∀ x ∈ l.map (fun n : Int => UInt8.ofNat n.toNat), x ≠ 47 := by
  intro x hx e
  obtain ⟨y, hy, rfl⟩ := List.mem_map.1 hx
  have h := hd y hy
  have h2 : (UInt8.ofNat y.toNat).toNat = y.toNat % 256 := UInt8.toNat_ofNat'
  rw [e] at h2
  have h3 : (47 : UInt8).toNat = 47 := rfl
  omega
/-- The text of a fraction. -/
def shw (p q : Int) : ByteArray := (strOfNums (tx p) ++ (⟨#[47]⟩ : ByteArray)) ++ strOfNums (tx q)
theorem shw_eq (p q : Int) : shw p q = bA ((tx p).map (fun n : Int => UInt8.ofNat n.toNat) ++ 47 :: (tx q).map (fun n : Int => UInt8.ofNat n.toNat)) := by
  show (bA _ ++ bA [47]) ++ bA _ = _
  rw [bA_append, bA_append]
  congr 1
  simp
theorem s_Show {p q : Int} (F : Fr p q) (hp : p < Bp 64) (hq : q < Bp 64) : Ev (fun k => ratio_Show.f k (dg p) (dg q)) (shw p q) := by
  have u1 : 0 ≤ p ∧ p < Bp 64 := ⟨F.p0, hp⟩
  have u2 : 0 ≤ q ∧ q < Bp 64 := ⟨Int.le_of_lt F.q0, hq⟩
  have l1 := tx_len u1
  have l2 := tx_len u2
  have z : (⟨#[47]⟩ : ByteArray).size = 1 := rfl
  refine (n_Fr F hp hq).bind ?_
  refine Ev.congr (fun k => if_pos rfl) ?_
  refine (s_Text u1).bind ?_
  refine Ev.congr (fun k => if_pos (by rw [str_size]; omega)) ?_
  refine (s_Text u2).bind ?_
  refine Ev.congr (fun k => if_pos (by rw [ByteArray.size_append, str_size, str_size, z]; omega)) ?_
  exact Ev.all fun _ => rfl
theorem s_Split {p q : Int} (hp : 0 ≤ p ∧ p < Bp 64) (hq : 0 ≤ q ∧ q < Bp 64) : strings_Split.f (shw p q) (⟨#[47]⟩ : ByteArray) = some [strOfNums (tx p), strOfNums (tx q)] := by
  have l1 := tx_len hp
  have l2 := tx_len hq
  have sz : (shw p q).size < 4294967281 := by
    rw [shw_eq, bA_size, List.length_append, List.length_cons, List.length_map, List.length_map]
    omega
  rw [strings_Split.f, if_pos ⟨rfl, sz⟩, shw_eq, split_two (dt_no (tx_dt p)) (dt_no (tx_dt q))]
  rfl
theorem s_Contains {p q : Int} (hp : 0 ≤ p ∧ p < Bp 64) (hq : 0 ≤ q ∧ q < Bp 64) : Ev (fun k => slices_ContainsFunc_string_string.f k [strOfNums (tx p), strOfNums (tx q)]) false := by
  have n1 := s_natural (tx_dt p) (tx_ct hp.1) (by have := tx_len hp; omega)
  have n2 := s_natural (tx_dt q) (tx_ct hq.1) (by have := tx_len hq; omega)
  have e : Ev (fun k => slices_IndexFunc_string_string.f k [strOfNums (tx p), strOfNums (tx q)]) (-1) := by
    refine Ev.succ (F := fun k => (ratio_natural.f k (strOfNums (tx p))).bind fun t => if t = true then slices_IndexFunc_string_string.l0 k [strOfNums (tx p), strOfNums (tx q)] 2 1 else some 0) (fun k => by rw [slices_IndexFunc_string_string.f, slices_IndexFunc_string_string.l0, if_pos (by simp), if_pos (by decide), if_pos (by simp), show wrap64 (0 + 1) = 1 from w64 (by decide) (by decide)]; rfl) ?_
    refine n1.bind ?_
    refine Ev.congr (fun k => if_pos rfl) ?_
    refine Ev.succ (F := fun k => (ratio_natural.f k (strOfNums (tx q))).bind fun t => if t = true then slices_IndexFunc_string_string.l0 k [strOfNums (tx p), strOfNums (tx q)] 2 2 else some 1) (fun k => by rw [slices_IndexFunc_string_string.l0, if_pos (by decide), if_pos (by decide), if_pos (by simp), show wrap64 (1 + 1) = 2 from w64 (by decide) (by decide)]; rfl) ?_
    refine n2.bind ?_
    refine Ev.congr (fun k => if_pos rfl) ?_
    refine Ev.succ (F := fun _ => some (-1)) (fun k => by rw [slices_IndexFunc_string_string.l0, if_neg (by decide)]) (Ev.all fun _ => rfl)
  exact e.bind (Ev.all fun _ => rfl)
theorem s_Read {p q : Int} (F : Fr p q) (hp : p < Bp 64) (hq : q < Bp 64) : Ev (fun k => ratio_Read.f k (shw p q)) (dg p, dg q, 0) := by
  have u1 : 0 ≤ p ∧ p < Bp 64 := ⟨F.p0, hp⟩
  have u2 : 0 ≤ q ∧ q < Bp 64 := ⟨Int.le_of_lt F.q0, hq⟩
  obtain ⟨a, b, g, P, g0, ex, ey, _, _, e⟩ := n_New u1 ⟨F.q0, hq⟩ (by decide)
  obtain ⟨rfl, rfl⟩ := P.uniq F g0 (show (0 : Int) < 1 by decide) (by omega) (by omega)
  have n1 := s_ParseText u1
  have n2 := s_ParseText u2
  refine Ev.congr (F := fun k => (slices_ContainsFunc_string_string.f k [strOfNums (tx a), strOfNums (tx b)]).bind fun t302 => ratio_Read.j0 k [strOfNums (tx a), strOfNums (tx b)] t302) (fun k => by rw [ratio_Read.f, s_Split u1 u2]; rfl) ?_
  refine (s_Contains u1 u2).bind ?_
  refine Ev.succ (F := fun k => (ratio_Parse.f k (strOfNums (tx a))).bind fun bt304 => (if bt304.2 = 0 then ((ratio_Parse.f k (strOfNums (tx b))).bind fun bt309 => (if bt309.2 = 0 then ((ratio_New.f k bt304.1 bt309.1).bind fun bt313 => (some (bt313.1, bt313.2.1, bt313.2.2))) else (some (([] : List Int), ([] : List Int), bt309.2)))) else (some (([] : List Int), ([] : List Int), bt304.2)))) (fun k => by rw [ratio_Read.j0, if_neg (by decide)]; rfl) ?_
  refine n1.bind ?_
  refine Ev.congr (fun k => if_pos rfl) ?_
  refine n2.bind ?_
  refine Ev.congr (fun k => if_pos rfl) ?_
  exact e.bind (Ev.all fun _ => rfl)
end Go.Proofs.YtjjjoepnlhpjdaaDoor.Pure
