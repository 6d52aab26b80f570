import Derived.Test.YtbjeemlbjkmhiaaDoorQ0
namespace Go.Proofs.YtbjeemlbjkmhiaaDoor.Q
open Go.RowKit Go.Proofs.YtbjeemlbjkmhiaaDoorW.PrintWords Go.Proofs.YtbjeemlbjkmhiaaDoorW.PrintLast Go.Proofs.YtbjeemlbjkmhiaaDoorW.PrintMore

attribute [local go_sem] max2_int min2_int max_two min_two max_three min_three max_four min_four   -- for this text's walks alone
set_option linter.unusedVariables false
set_option linter.unusedSimpArgs false

def r2xtrim.l0 : Nat → List Int → Int → Option (List Int)
 | 0, _, _ => none
 | k + 1, x0, x3 => if x3 > 0 then (if 0 ≤ (wrap64 (x3 - 1)) then (if (wrap64 (x3 - 1)) < (x0.length : Int) then (if (rd x0 (wrap64 (x3 - 1))) = 0 then (r2xtrim.l0 k x0 (wrap64 (x3 - 1))) else (if 0 ≤ x3 then (if x3 ≤ (x0.length : Int) then (if ([] : List Int).length + (x0.take (x3 : Int).toNat).length < 35184372088832 then (some (([] : List Int) ++ (x0.take (x3 : Int).toNat))) else (none)) else (none)) else (none))) else (none)) else (none)) else (if 0 ≤ x3 then (if x3 ≤ (x0.length : Int) then (if ([] : List Int).length + (x0.take (x3 : Int).toNat).length < 35184372088832 then (some (([] : List Int) ++ (x0.take (x3 : Int).toNat))) else (none)) else (none)) else (none))
def r2xtrim.f (k : Nat) (l0 : List Int) : Option (List Int) := r2xtrim.l0 k l0 (l0.length : Int)
def r2xlimb.f (l0 : List Int) (a1 : Int) : Option (Int) := if a1 < (l0.length : Int) then (if 0 ≤ a1 then (some (IntKind.u64.wrap (rd l0 a1))) else (none)) else (some 0)
def r2xsum.l0 : Nat → List Int → List Int → List Int → Int → Int → Option (List Int)
 | 0, _, _, _, _, _ => none
 | k + 1, x0, x1, x5, x6, x7 => if x7 < (wrap64 ((mx (x0.length : Int) (x1.length : Int)) + 1)) then ((r2xlimb.f x0 x7).bind fun t368 => ((r2xlimb.f x1 x7).bind fun t369 => (if x5.length < 35184372088832 then (r2xsum.l0 k x0 x1 (x5 ++ [(Int.tmod (IntKind.u64.wrap ((IntKind.u64.wrap (t368 + t369)) + x6)) 4294967296) % 4294967296]) (IntKind.u64.wrap (Int.tdiv (IntKind.u64.wrap ((IntKind.u64.wrap (t368 + t369)) + x6)) 4294967296)) (wrap64 (x7 + 1))) else (none)))) else ((r2xtrim.f k x5).bind fun t373 => (some t373))
def r2xsum.f (k : Nat) (l0 : List Int) (l1 : List Int) : Option (List Int) := r2xsum.l0 k l0 l1 ([] : List Int) 0 0
def r2xorder.l0 : Nat → List Int → List Int → Int → Option (Int)
 | 0, _, _, _ => none
 | k + 1, x0, x1, x5 => if x5 ≥ 0 then (if 0 ≤ x5 then (if x5 < (x0.length : Int) then (if x5 < (x1.length : Int) then (if (rd x0 x5) < (rd x1 x5) then (some (-1)) else (if (rd x0 x5) > (rd x1 x5) then (some 1) else (r2xorder.l0 k x0 x1 (wrap64 (x5 - 1))))) else (none)) else (none)) else (none)) else (some 0)
def r2xorder.f (k : Nat) (l0 : List Int) (l1 : List Int) : Option (Int) := if (l0.length : Int) = (l1.length : Int) then (r2xorder.l0 k l0 l1 (wrap64 ((l0.length : Int) - 1))) else (if (l0.length : Int) < (l1.length : Int) then (some (-1)) else (some 1))
def r2xeven.f (l0 : List Int) : Option (Bool) := if (l0.length : Int) = 0 then (some true) else (if 0 < (l0.length : Int) then (some ((Int.tmod (rd l0 0) 2) == 0)) else (none))
def r2xhalf.l0 : Nat → List Int → List Int → Int → Int → Option (List Int)
 | 0, _, _, _, _ => none
 | k + 1, x0, x3, x4, x5 => if x5 ≥ 0 then (if 0 ≤ x5 then (if x5 < (x0.length : Int) then (if x5 < (x3.length : Int) then (r2xhalf.l0 k x0 (x3.set (x5 : Int).toNat ((((Int.tdiv (rd x0 x5) 2) % 4294967296) + x4) % 4294967296)) (((Int.tmod (rd x0 x5) 2) * 2147483648) % 4294967296) (wrap64 (x5 - 1))) else (none)) else (none)) else (none)) else ((r2xtrim.f k x3).bind fun t387 => (some t387))
def r2xhalf.f (k : Nat) (l0 : List Int) : Option (List Int) := if 0 ≤ (l0.length : Int) then (if ((l0.length : Int) : Int).toNat ≤ 70368744177664 then (r2xhalf.l0 k l0 (List.replicate ((l0.length : Int) : Int).toNat 0) 0 (wrap64 ((l0.length : Int) - 1))) else (none)) else (none)
def r2xdiff.l0 : Nat → List Int → List Int → List Int → Int → Int → Option (List Int)
 | 0, _, _, _, _, _ => none
 | k + 1, x0, x1, x5, x6, x7 => if x7 < (x0.length : Int) then ((r2xlimb.f x0 x7).bind fun t393 => ((r2xlimb.f x1 x7).bind fun t394 => (if t393 < (IntKind.u64.wrap (t394 + x6)) then (if x5.length < 35184372088832 then (r2xdiff.l0 k x0 x1 (x5 ++ [(IntKind.u64.wrap ((IntKind.u64.wrap (t393 + 4294967296)) - (IntKind.u64.wrap (t394 + x6)))) % 4294967296]) 1 (wrap64 (x7 + 1))) else (none)) else (if x5.length < 35184372088832 then (r2xdiff.l0 k x0 x1 (x5 ++ [(IntKind.u64.wrap (t393 - (IntKind.u64.wrap (t394 + x6)))) % 4294967296]) 0 (wrap64 (x7 + 1))) else (none))))) else ((r2xtrim.f k x5).bind fun t390 => (some t390))
def r2xdiff.f (k : Nat) (l0 : List Int) (l1 : List Int) : Option (List Int) := r2xdiff.l0 k l0 l1 ([] : List Int) 0 0
mutual
def r2xgcd.l0 : Nat → List Int → List Int → Int → Option (List Int)
 | 0, _, _, _ => none
 | k + 1, x0, x1, x5 => (r2xeven.f x0).bind fun t407 => (if t407 = true then ((r2xeven.f x1).bind fun t408 => (r2xgcd.j1 k x0 x1 x5 t408)) else (r2xgcd.j1 k x0 x1 x5 false))
def r2xgcd.j1 : Nat → List Int → List Int → Int → Bool → Option (List Int)
 | 0, _, _, _, _ => none
 | k + 1, x0, x1, x5, x22 => if x22 = true then ((r2xhalf.f k x0).bind fun t409 => ((r2xhalf.f k x1).bind fun t412 => (r2xgcd.l0 k t409 t412 (wrap64 (x5 + 1))))) else (r2xgcd.l1 k x0 x1 x5)
def r2xgcd.l1 : Nat → List Int → List Int → Int → Option (List Int)
 | 0, _, _, _ => none
 | k + 1, x0, x1, x5 => if (x0.length : Int) > 0 then (r2xgcd.l2 k x0 x1 x5) else (r2xgcd.l4 k x1 x5 0)
def r2xgcd.l2 : Nat → List Int → List Int → Int → Option (List Int)
 | 0, _, _, _ => none
 | k + 1, x0, x1, x5 => (r2xeven.f x0).bind fun t415 => (if t415 = true then ((r2xhalf.f k x0).bind fun t416 => (r2xgcd.l2 k t416 x1 x5)) else (r2xgcd.l3 k x0 x1 x5))
def r2xgcd.l3 : Nat → List Int → List Int → Int → Option (List Int)
 | 0, _, _, _ => none
 | k + 1, x0, x1, x5 => (r2xeven.f x1).bind fun t419 => (if t419 = true then ((r2xhalf.f k x1).bind fun t420 => (r2xgcd.l3 k x0 t420 x5)) else ((r2xorder.f k x0 x1).bind fun t423 => (if t423 < 0 then ((r2xdiff.f k x1 x0).bind fun t424 => (r2xgcd.l1 k t424 x0 x5)) else ((r2xdiff.f k x0 x1).bind fun t427 => (r2xgcd.l1 k t427 x1 x5)))))
def r2xgcd.l4 : Nat → List Int → Int → Int → Option (List Int)
 | 0, _, _, _ => none
 | k + 1, x1, x5, x6 => if x6 < x5 then ((r2xsum.f k x1 x1).bind fun t430 => (r2xgcd.l4 k t430 x5 (wrap64 (x6 + 1)))) else ((r2xtrim.f k x1).bind fun t433 => (some t433))
end
def r2xgcd.f (k : Nat) (l0 : List Int) (l1 : List Int) : Option (List Int) := if (l0.length : Int) = 0 then ((r2xtrim.f k l1).bind fun t401 => (some t401)) else (if (l1.length : Int) = 0 then ((r2xtrim.f k l0).bind fun t404 => (some t404)) else (r2xgcd.l0 k l0 l1 0))
def r2xbit.f (l0 : List Int) (a1 : Int) : Option (Int) := if 0 ≤ (wrap64 (Int.tdiv a1 32)) then (if (wrap64 (Int.tdiv a1 32)) < (l0.length : Int) then (if 0 ≤ (IntKind.u64.wrap (Int.tmod a1 32)) then (if (shl .u32 1 (IntKind.u64.wrap (Int.tmod a1 32))) = 0 then (none) else (some (((Int.tdiv (rd l0 (wrap64 (Int.tdiv a1 32))) (shl .u32 1 (IntKind.u64.wrap (Int.tmod a1 32)))) % 4294967296) % 2))) else (none)) else (none)) else (none)
mutual
def r2xquotient.l0 : Nat → List Int → List Int → List Int → List Int → Int → Option (List Int × List Int)
 | 0, _, _, _, _, _ => none
 | k + 1, x0, x1, x6, x7, x8 => if x8 ≥ 0 then ((r2xsum.f k x7 x7).bind fun t443 => ((r2xbit.f x0 x8).bind fun t446 => (if t446 = 1 then ((r2xsum.f k t443 (([1] : List Int))).bind fun t450 => (r2xquotient.j1 k x0 x1 x6 t450 x8)) else (r2xquotient.j1 k x0 x1 x6 t443 x8)))) else ((r2xtrim.f k x6).bind fun t440 => (some (t440, x7)))
def r2xquotient.j1 : Nat → List Int → List Int → List Int → List Int → Int → Option (List Int × List Int)
 | 0, _, _, _, _, _ => none
 | k + 1, x0, x1, x6, x7, x8 => (r2xorder.f k x7 x1).bind fun t453 => (if t453 ≥ 0 then ((r2xdiff.f k x7 x1).bind fun t454 => (if 0 ≤ (wrap64 (Int.tdiv x8 32)) then (if (wrap64 (Int.tdiv x8 32)) < (x6.length : Int) then (if 0 ≤ (IntKind.u64.wrap (Int.tmod x8 32)) then (r2xquotient.l0 k x0 x1 (x6.set ((wrap64 (Int.tdiv x8 32)) : Int).toNat (((rd x6 (wrap64 (Int.tdiv x8 32))) + (shl .u32 1 (IntKind.u64.wrap (Int.tmod x8 32)))) % 4294967296)) t454 (wrap64 (x8 - 1))) else (none)) else (none)) else (none))) else (r2xquotient.l0 k x0 x1 x6 x7 (wrap64 (x8 - 1))))
end
def r2xquotient.f (k : Nat) (l0 : List Int) (l1 : List Int) : Option (List Int × List Int) := if 0 ≤ (l0.length : Int) then (if ((l0.length : Int) : Int).toNat ≤ 70368744177664 then (r2xquotient.l0 k l0 l1 (List.replicate ((l0.length : Int) : Int).toNat 0) ([] : List Int) (wrap64 ((wrap64 (32 * (l0.length : Int))) - 1))) else (none)) else (none)
def r2xlowest.f (k : Nat) (l0 : List Int) (l1 : List Int) : Option (List Int × List Int × Int) := (r2xgcd.f k l0 l1).bind fun t460 => ((r2xquotient.f k l0 t460).bind fun bt463 => ((r2xquotient.f k l1 t460).bind fun bt469 => (if (bt463.1.length : Int) > 64 then (some (([] : List Int), ([] : List Int), 3)) else (if (bt469.1.length : Int) > 64 then (some (([] : List Int), ([] : List Int), 3)) else (some (bt463.1, bt469.1, 0))))))
def r2xValidNat.f (l0 : List Int) : Option (Bool) := if (l0.length : Int) ≤ 64 then (if (l0.length : Int) = 0 then (some true) else (if 0 ≤ (wrap64 ((l0.length : Int) - 1)) then (if (wrap64 ((l0.length : Int) - 1)) < (l0.length : Int) then (some ((rd l0 (wrap64 ((l0.length : Int) - 1))) != 0)) else (none)) else (none))) else (some false)
def r2xNew.j0 : Nat → List Int → List Int → Bool → Option (List Int × List Int × Int)
 | 0, _, _, _ => none
 | k + 1, x0, x1, x13 => if x13 = true then (some (([] : List Int), ([] : List Int), 1)) else (if (x1.length : Int) = 0 then (some (([] : List Int), ([] : List Int), 2)) else ((r2xlowest.f k x0 x1).bind fun bt479 => (some (bt479.1, bt479.2.1, bt479.2.2))))
def r2xNew.f (k : Nat) (l0 : List Int) (l1 : List Int) : Option (List Int × List Int × Int) := (r2xValidNat.f l0).bind fun t477 => (if t477 = true then ((r2xValidNat.f l1).bind fun t478 => (r2xNew.j0 k l0 l1 (!t478))) else (r2xNew.j0 k l0 l1 true))
def r2xNat.f (k : Nat) (a0 : Int) : Option (List Int) := (r2xtrim.f k (([(Int.tmod a0 4294967296) % 4294967296, (IntKind.u64.wrap (Int.tdiv a0 4294967296)) % 4294967296] : List Int))).bind fun t489 => (some t489)
def r2xOf.f (k : Nat) (a0 : Int) (a1 : Int) : Option (List Int × List Int × Int) := (r2xNat.f k a0).bind fun t493 => ((r2xNat.f k a1).bind fun t496 => ((r2xNew.f k t493 t496).bind fun bt499 => (some (bt499.1, bt499.2.1, bt499.2.2))))
def r2xSameNat.l0 : Nat → List Int → List Int → Int → Option (Bool)
 | 0, _, _, _ => none
 | k + 1, x0, x1, x5 => if x5 < (x0.length : Int) then (if 0 ≤ x5 then (if x5 < (x1.length : Int) then (if (rd x0 x5) = (rd x1 x5) then (r2xSameNat.l0 k x0 x1 (wrap64 (x5 + 1))) else (some false)) else (none)) else (none)) else (some true)
def r2xSameNat.f (k : Nat) (l0 : List Int) (l1 : List Int) : Option (Bool) := if (l0.length : Int) = (l1.length : Int) then (r2xSameNat.l0 k l0 l1 0) else (some false)
def r2xValid.f (k : Nat) (l0_0 : List Int) (l0_1 : List Int) : Option (Bool) := (r2xValidNat.f l0_0).bind fun t509 => (if t509 = true then ((r2xValidNat.f l0_1).bind fun t510 => (if t510 = true then (if (l0_1.length : Int) > 0 then ((r2xgcd.f k l0_0 l0_1).bind fun t511 => ((r2xSameNat.f k t511 (([1] : List Int))).bind fun t517 => (some t517))) else (some false)) else (some false))) else (some false))
end Go.Proofs.YtbjeemlbjkmhiaaDoor.Q
