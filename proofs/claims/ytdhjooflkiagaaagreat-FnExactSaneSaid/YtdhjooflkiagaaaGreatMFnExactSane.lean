import Derived.Test.YtdhjooflkiagaaaGreatProg
import Derived.Test.YtdhjooflkiagaaaGreatAbtE
import Derived.KernelRfl
import Derived.Test.YtdhjooflkiagaaaGreatMFnExactSanea
namespace Go.Abs
open Go.Proofs
set_option linter.unusedVariables false
set_option maxRecDepth 100000
noncomputable section
/-! impl.NodeOk: function 47 -/
noncomputable def f_impl_NodeOk.l9 : Nat → (List Int) → Int → Int → Int → Int → (List (Int × List Int × Bool)) → (List (List Int × Int × List Bool × Bool × Int × Bool × Int × (List (Int × Bool)))) → (List (Int × (List (Int × Int × Bool × List Int)))) → (List Int) → Int → Option ((Int × Int × (List (Int × List Int × Bool)) × (List (List Int × Int × List Bool × Bool × Int × Bool × Int × (List (Int × Bool)))) × (List (Int × (List (Int × Int × Bool × List Int)))) × List Int × Int) ⊕ (Int × Int × (List (Int × List Int × Bool)) × (List (List Int × Int × List Bool × Bool × Int × Bool × Int × (List (Int × Bool)))) × (List (Int × (List (Int × Int × Bool × List Int)))) × List Int × Int))
  | 0, _, _, _, _, _, _, _, _, _, _ => none
  | n + 1, p549, p550, p551, p552, p553, p554, p555, p556, p557, p558 =>
    bif (decide (p552 < p551)) then
      bif ((decide ((0 : Int) ≤ p552)) && (decide (p552 < (p549.length : Int)))) then
      (f_impl_NodeOk_4 (p549.getD p552.toNat 0)).bind fun y559 =>
      bif y559 then
        some (.inl (p552, p553, p554, p555, p556, p557, p558))
      else
        f_impl_NodeOk.l9 n p549 p550 p551 (IntKind.wrap .i64 (p552 + (1 : Int))) p553 p554 p555 p556 p557 p558
      else none
    else
      some (.inr (p550, p553, p554, p555, p556, p557, p558))
noncomputable def f_impl_NodeOk.l8 : Nat → (List (Int × (List (Int × Int × Bool × List Int)))) → Int → Int → Int → Int → (List (Int × List Int × Bool)) → (List (List Int × Int × List Bool × Bool × Int × Bool × Int × (List (Int × Bool)))) → (List (Int × (List (Int × Int × Bool × List Int)))) → (List Int) → Int → Option ((Int × Int × (List (Int × List Int × Bool)) × (List (List Int × Int × List Bool × Bool × Int × Bool × Int × (List (Int × Bool)))) × (List (Int × (List (Int × Int × Bool × List Int)))) × List Int × Int) ⊕ (Int × Int × (List (Int × List Int × Bool)) × (List (List Int × Int × List Bool × Bool × Int × Bool × Int × (List (Int × Bool)))) × (List (Int × (List (Int × Int × Bool × List Int)))) × List Int × Int))
  | 0, _, _, _, _, _, _, _, _, _, _ => none
  | n + 1, p532, p533, p534, p535, p536, p537, p538, p539, p540, p541 =>
    bif (decide (p535 < p534)) then
      bif ((decide ((0 : Int) ≤ p535)) && (decide (p535 < (p532.length : Int)))) then
      (f_impl_NodeOk_3 ((p532.getD p535.toNat (0, [])).1) ((p532.getD p535.toNat (0, [])).2)).bind fun y542 =>
      bif y542 then
        some (.inl (p535, p536, p537, p538, p539, p540, p541))
      else
        f_impl_NodeOk.l8 n p532 p533 p534 (IntKind.wrap .i64 (p535 + (1 : Int))) p536 p537 p538 p539 p540 p541
      else none
    else
      some (.inr (p533, p536, p537, p538, p539, p540, p541))
noncomputable def f_impl_NodeOk.l7 : Nat → (List (List Int × Int × List Bool × Bool × Int × Bool × Int × (List (Int × Bool)))) → Int → Int → Int → Int → (List (Int × List Int × Bool)) → (List (List Int × Int × List Bool × Bool × Int × Bool × Int × (List (Int × Bool)))) → (List (Int × (List (Int × Int × Bool × List Int)))) → (List Int) → Int → Option ((Int × Int × (List (Int × List Int × Bool)) × (List (List Int × Int × List Bool × Bool × Int × Bool × Int × (List (Int × Bool)))) × (List (Int × (List (Int × Int × Bool × List Int)))) × List Int × Int) ⊕ (Int × Int × (List (Int × List Int × Bool)) × (List (List Int × Int × List Bool × Bool × Int × Bool × Int × (List (Int × Bool)))) × (List (Int × (List (Int × Int × Bool × List Int)))) × List Int × Int))
  | 0, _, _, _, _, _, _, _, _, _, _ => none
  | n + 1, p509, p510, p511, p512, p513, p514, p515, p516, p517, p518 =>
    bif (decide (p512 < p511)) then
      bif ((decide ((0 : Int) ≤ p512)) && (decide (p512 < (p509.length : Int)))) then
      (f_impl_NodeOk_2 ((p509.getD p512.toNat ([], 0, [], false, 0, false, 0, [])).1) ((p509.getD p512.toNat ([], 0, [], false, 0, false, 0, [])).2.1) ((p509.getD p512.toNat ([], 0, [], false, 0, false, 0, [])).2.2.1) ((p509.getD p512.toNat ([], 0, [], false, 0, false, 0, [])).2.2.2.1) ((p509.getD p512.toNat ([], 0, [], false, 0, false, 0, [])).2.2.2.2.1) ((p509.getD p512.toNat ([], 0, [], false, 0, false, 0, [])).2.2.2.2.2.1) ((p509.getD p512.toNat ([], 0, [], false, 0, false, 0, [])).2.2.2.2.2.2.1) ((p509.getD p512.toNat ([], 0, [], false, 0, false, 0, [])).2.2.2.2.2.2.2) p518).bind fun y519 =>
      bif y519 then
        some (.inl (p512, p513, p514, p515, p516, p517, p518))
      else
        f_impl_NodeOk.l7 n p509 p510 p511 (IntKind.wrap .i64 (p512 + (1 : Int))) p513 p514 p515 p516 p517 p518
      else none
    else
      some (.inr (p510, p513, p514, p515, p516, p517, p518))
noncomputable def f_impl_NodeOk.l6 : Nat → (List Int) → Int → Int → Int → Int → (List (Int × List Int × Bool)) → (List (List Int × Int × List Bool × Bool × Int × Bool × Int × (List (Int × Bool)))) → (List (Int × (List (Int × Int × Bool × List Int)))) → (List Int) → Int → Option ((Int × Int × (List (Int × List Int × Bool)) × (List (List Int × Int × List Bool × Bool × Int × Bool × Int × (List (Int × Bool)))) × (List (Int × (List (Int × Int × Bool × List Int)))) × List Int × Int) ⊕ (Int × Int × (List (Int × List Int × Bool)) × (List (List Int × Int × List Bool × Bool × Int × Bool × Int × (List (Int × Bool)))) × (List (Int × (List (Int × Int × Bool × List Int)))) × List Int × Int))
  | 0, _, _, _, _, _, _, _, _, _, _ => none
  | n + 1, p495, p496, p497, p498, p499, p500, p501, p502, p503, p504 =>
    bif (decide (p498 < p497)) then
      bif ((decide ((0 : Int) ≤ p498)) && (decide (p498 < (p495.length : Int)))) then
      (f_impl_NodeOk_4 (p495.getD p498.toNat 0)).bind fun y505 =>
      bif y505 then
        some (.inl (p498, p499, p500, p501, p502, p503, p504))
      else
        f_impl_NodeOk.l6 n p495 p496 p497 (IntKind.wrap .i64 (p498 + (1 : Int))) p499 p500 p501 p502 p503 p504
      else none
    else
      some (.inr (p496, p499, p500, p501, p502, p503, p504))
noncomputable def f_impl_NodeOk.l5 : Nat → (List (Int × (List (Int × Int × Bool × List Int)))) → Int → Int → Int → Int → (List (Int × List Int × Bool)) → (List (List Int × Int × List Bool × Bool × Int × Bool × Int × (List (Int × Bool)))) → (List (Int × (List (Int × Int × Bool × List Int)))) → (List Int) → Int → Option ((Int × Int × (List (Int × List Int × Bool)) × (List (List Int × Int × List Bool × Bool × Int × Bool × Int × (List (Int × Bool)))) × (List (Int × (List (Int × Int × Bool × List Int)))) × List Int × Int) ⊕ (Int × Int × (List (Int × List Int × Bool)) × (List (List Int × Int × List Bool × Bool × Int × Bool × Int × (List (Int × Bool)))) × (List (Int × (List (Int × Int × Bool × List Int)))) × List Int × Int))
  | 0, _, _, _, _, _, _, _, _, _, _ => none
  | n + 1, p478, p479, p480, p481, p482, p483, p484, p485, p486, p487 =>
    bif (decide (p481 < p480)) then
      bif ((decide ((0 : Int) ≤ p481)) && (decide (p481 < (p478.length : Int)))) then
      (f_impl_NodeOk_3 ((p478.getD p481.toNat (0, [])).1) ((p478.getD p481.toNat (0, [])).2)).bind fun y488 =>
      bif y488 then
        some (.inl (p481, p482, p483, p484, p485, p486, p487))
      else
        f_impl_NodeOk.l5 n p478 p479 p480 (IntKind.wrap .i64 (p481 + (1 : Int))) p482 p483 p484 p485 p486 p487
      else none
    else
      some (.inr (p479, p482, p483, p484, p485, p486, p487))
noncomputable def f_impl_NodeOk.l4 : Nat → (List Int) → Int → Int → Int → Int → (List (Int × List Int × Bool)) → (List (List Int × Int × List Bool × Bool × Int × Bool × Int × (List (Int × Bool)))) → (List (Int × (List (Int × Int × Bool × List Int)))) → (List Int) → Int → Option ((Int × Int × (List (Int × List Int × Bool)) × (List (List Int × Int × List Bool × Bool × Int × Bool × Int × (List (Int × Bool)))) × (List (Int × (List (Int × Int × Bool × List Int)))) × List Int × Int) ⊕ (Int × Int × (List (Int × List Int × Bool)) × (List (List Int × Int × List Bool × Bool × Int × Bool × Int × (List (Int × Bool)))) × (List (Int × (List (Int × Int × Bool × List Int)))) × List Int × Int))
  | 0, _, _, _, _, _, _, _, _, _, _ => none
  | n + 1, p464, p465, p466, p467, p468, p469, p470, p471, p472, p473 =>
    bif (decide (p467 < p466)) then
      bif ((decide ((0 : Int) ≤ p467)) && (decide (p467 < (p464.length : Int)))) then
      (f_impl_NodeOk_4 (p464.getD p467.toNat 0)).bind fun y474 =>
      bif y474 then
        some (.inl (p467, p468, p469, p470, p471, p472, p473))
      else
        f_impl_NodeOk.l4 n p464 p465 p466 (IntKind.wrap .i64 (p467 + (1 : Int))) p468 p469 p470 p471 p472 p473
      else none
    else
      some (.inr (p465, p468, p469, p470, p471, p472, p473))
noncomputable def f_impl_NodeOk.l3 : Nat → (List Int) → Int → Int → Int → Int → (List (Int × List Int × Bool)) → (List (List Int × Int × List Bool × Bool × Int × Bool × Int × (List (Int × Bool)))) → (List (Int × (List (Int × Int × Bool × List Int)))) → (List Int) → Int → Option ((Int × Int × (List (Int × List Int × Bool)) × (List (List Int × Int × List Bool × Bool × Int × Bool × Int × (List (Int × Bool)))) × (List (Int × (List (Int × Int × Bool × List Int)))) × List Int × Int) ⊕ (Int × Int × (List (Int × List Int × Bool)) × (List (List Int × Int × List Bool × Bool × Int × Bool × Int × (List (Int × Bool)))) × (List (Int × (List (Int × Int × Bool × List Int)))) × List Int × Int))
  | 0, _, _, _, _, _, _, _, _, _, _ => none
  | n + 1, p450, p451, p452, p453, p454, p455, p456, p457, p458, p459 =>
    bif (decide (p453 < p452)) then
      bif ((decide ((0 : Int) ≤ p453)) && (decide (p453 < (p450.length : Int)))) then
      (f_impl_NodeOk_4 (p450.getD p453.toNat 0)).bind fun y460 =>
      bif y460 then
        some (.inl (p453, p454, p455, p456, p457, p458, p459))
      else
        f_impl_NodeOk.l3 n p450 p451 p452 (IntKind.wrap .i64 (p453 + (1 : Int))) p454 p455 p456 p457 p458 p459
      else none
    else
      some (.inr (p451, p454, p455, p456, p457, p458, p459))
noncomputable def f_impl_NodeOk.l2 : Nat → (List (Int × (List (Int × Int × Bool × List Int)))) → Int → Int → Int → Int → (List (Int × List Int × Bool)) → (List (List Int × Int × List Bool × Bool × Int × Bool × Int × (List (Int × Bool)))) → (List (Int × (List (Int × Int × Bool × List Int)))) → (List Int) → Int → Option ((Int × Int × (List (Int × List Int × Bool)) × (List (List Int × Int × List Bool × Bool × Int × Bool × Int × (List (Int × Bool)))) × (List (Int × (List (Int × Int × Bool × List Int)))) × List Int × Int) ⊕ (Int × Int × (List (Int × List Int × Bool)) × (List (List Int × Int × List Bool × Bool × Int × Bool × Int × (List (Int × Bool)))) × (List (Int × (List (Int × Int × Bool × List Int)))) × List Int × Int))
  | 0, _, _, _, _, _, _, _, _, _, _ => none
  | n + 1, p436, p437, p438, p439, p440, p441, p442, p443, p444, p445 =>
    bif (decide (p439 < p438)) then
      bif ((decide ((0 : Int) ≤ p439)) && (decide (p439 < (p436.length : Int)))) then
      (f_impl_NodeOk_3 ((p436.getD p439.toNat (0, [])).1) ((p436.getD p439.toNat (0, [])).2)).bind fun y446 =>
      bif y446 then
        some (.inl (p439, p440, p441, p442, p443, p444, p445))
      else
        f_impl_NodeOk.l2 n p436 p437 p438 (IntKind.wrap .i64 (p439 + (1 : Int))) p440 p441 p442 p443 p444 p445
      else none
    else
      some (.inr (p437, p440, p441, p442, p443, p444, p445))
noncomputable def f_impl_NodeOk.l1 : Nat → (List (List Int × Int × List Bool × Bool × Int × Bool × Int × (List (Int × Bool)))) → Int → Int → Int → Int → (List (Int × List Int × Bool)) → (List (List Int × Int × List Bool × Bool × Int × Bool × Int × (List (Int × Bool)))) → (List (Int × (List (Int × Int × Bool × List Int)))) → (List Int) → Int → Option ((Int × Int × (List (Int × List Int × Bool)) × (List (List Int × Int × List Bool × Bool × Int × Bool × Int × (List (Int × Bool)))) × (List (Int × (List (Int × Int × Bool × List Int)))) × List Int × Int) ⊕ (Int × Int × (List (Int × List Int × Bool)) × (List (List Int × Int × List Bool × Bool × Int × Bool × Int × (List (Int × Bool)))) × (List (Int × (List (Int × Int × Bool × List Int)))) × List Int × Int))
  | 0, _, _, _, _, _, _, _, _, _, _ => none
  | n + 1, p422, p423, p424, p425, p426, p427, p428, p429, p430, p431 =>
    bif (decide (p425 < p424)) then
      bif ((decide ((0 : Int) ≤ p425)) && (decide (p425 < (p422.length : Int)))) then
      (f_impl_NodeOk_2 ((p422.getD p425.toNat ([], 0, [], false, 0, false, 0, [])).1) ((p422.getD p425.toNat ([], 0, [], false, 0, false, 0, [])).2.1) ((p422.getD p425.toNat ([], 0, [], false, 0, false, 0, [])).2.2.1) ((p422.getD p425.toNat ([], 0, [], false, 0, false, 0, [])).2.2.2.1) ((p422.getD p425.toNat ([], 0, [], false, 0, false, 0, [])).2.2.2.2.1) ((p422.getD p425.toNat ([], 0, [], false, 0, false, 0, [])).2.2.2.2.2.1) ((p422.getD p425.toNat ([], 0, [], false, 0, false, 0, [])).2.2.2.2.2.2.1) ((p422.getD p425.toNat ([], 0, [], false, 0, false, 0, [])).2.2.2.2.2.2.2) p431).bind fun y432 =>
      bif y432 then
        some (.inl (p425, p426, p427, p428, p429, p430, p431))
      else
        f_impl_NodeOk.l1 n p422 p423 p424 (IntKind.wrap .i64 (p425 + (1 : Int))) p426 p427 p428 p429 p430 p431
      else none
    else
      some (.inr (p423, p426, p427, p428, p429, p430, p431))
noncomputable def f_impl_NodeOk.l0 : Nat → (List (Int × List Int × Bool)) → Int → Int → Int → Int → (List (Int × List Int × Bool)) → (List (List Int × Int × List Bool × Bool × Int × Bool × Int × (List (Int × Bool)))) → (List (Int × (List (Int × Int × Bool × List Int)))) → (List Int) → Int → Option ((Int × Int × (List (Int × List Int × Bool)) × (List (List Int × Int × List Bool × Bool × Int × Bool × Int × (List (Int × Bool)))) × (List (Int × (List (Int × Int × Bool × List Int)))) × List Int × Int) ⊕ (Int × Int × (List (Int × List Int × Bool)) × (List (List Int × Int × List Bool × Bool × Int × Bool × Int × (List (Int × Bool)))) × (List (Int × (List (Int × Int × Bool × List Int)))) × List Int × Int))
  | 0, _, _, _, _, _, _, _, _, _, _ => none
  | n + 1, p408, p409, p410, p411, p412, p413, p414, p415, p416, p417 =>
    bif (decide (p411 < p410)) then
      bif ((decide ((0 : Int) ≤ p411)) && (decide (p411 < (p408.length : Int)))) then
      (f_impl_NodeOk_1 ((p408.getD p411.toNat (0, [], false)).1) ((p408.getD p411.toNat (0, [], false)).2.1) ((p408.getD p411.toNat (0, [], false)).2.2)).bind fun y418 =>
      bif y418 then
        some (.inl (p411, p412, p413, p414, p415, p416, p417))
      else
        f_impl_NodeOk.l0 n p408 p409 p410 (IntKind.wrap .i64 (p411 + (1 : Int))) p412 p413 p414 p415 p416 p417
      else none
    else
      some (.inr (p409, p412, p413, p414, p415, p416, p417))
noncomputable def f_impl_NodeOk (x0 : Int) (x1 : List (Int × List Int × Bool)) (x2 : List (List Int × Int × List Bool × Bool × Int × Bool × Int × (List (Int × Bool)))) (x3 : List (Int × (List (Int × Int × Bool × List Int)))) (x4 : List Int) (x5 : Int) : Option (Bool) :=
  (f_impl_isOf x0 x5).bind fun y407 =>
  bif y407 then
    bif (decide ((x1.length : Int) = (6 : Int))) then
      bif (decide ((x2.length : Int) = (6 : Int))) then
        bif (decide ((x3.length : Int) = x5)) then
          bif (decide ((x4.length : Int) = x5)) then
            (f_impl_NodeOk.l0 N x1 0 (x1.length : Int) 0 x0 x1 x2 x3 x4 x5).bind fun r419 =>
            cs r419 (fun a420 =>
              bif (!(decide ((0 : Int) ≤ a420.1))) then
                (f_impl_NodeOk.l1 N a420.2.2.2.1 0 (a420.2.2.2.1.length : Int) 0 a420.2.1 a420.2.2.1 a420.2.2.2.1 a420.2.2.2.2.1 a420.2.2.2.2.2.1 a420.2.2.2.2.2.2).bind fun r433 =>
                cs r433 (fun a434 =>
                  bif (!(decide ((0 : Int) ≤ a434.1))) then
                    (f_impl_NodeOk.l2 N a434.2.2.2.2.1 0 (a434.2.2.2.2.1.length : Int) 0 a434.2.1 a434.2.2.1 a434.2.2.2.1 a434.2.2.2.2.1 a434.2.2.2.2.2.1 a434.2.2.2.2.2.2).bind fun r447 =>
                    cs r447 (fun a448 =>
                      bif (!(decide ((0 : Int) ≤ a448.1))) then
                        (f_impl_NodeOk.l3 N a448.2.2.2.2.2.1 0 (a448.2.2.2.2.2.1.length : Int) 0 a448.2.1 a448.2.2.1 a448.2.2.2.1 a448.2.2.2.2.1 a448.2.2.2.2.2.1 a448.2.2.2.2.2.2).bind fun r461 =>
                        cs r461 (fun a462 =>
                          some (!(decide ((0 : Int) ≤ a462.1)))) (fun b463 =>
                          some true)
                      else
                        some false) (fun b449 =>
                      (f_impl_NodeOk.l4 N b449.2.2.2.2.2.1 0 (b449.2.2.2.2.2.1.length : Int) 0 b449.2.1 b449.2.2.1 b449.2.2.2.1 b449.2.2.2.2.1 b449.2.2.2.2.2.1 b449.2.2.2.2.2.2).bind fun r475 =>
                      cs r475 (fun a476 =>
                        some (!(decide ((0 : Int) ≤ a476.1)))) (fun b477 =>
                        some true))
                  else
                    some false) (fun b435 =>
                  (f_impl_NodeOk.l5 N b435.2.2.2.2.1 0 (b435.2.2.2.2.1.length : Int) 0 b435.2.1 b435.2.2.1 b435.2.2.2.1 b435.2.2.2.2.1 b435.2.2.2.2.2.1 b435.2.2.2.2.2.2).bind fun r489 =>
                  cs r489 (fun a490 =>
                    bif (!(decide ((0 : Int) ≤ a490.1))) then
                      (f_impl_NodeOk.l4 N a490.2.2.2.2.2.1 0 (a490.2.2.2.2.2.1.length : Int) 0 a490.2.1 a490.2.2.1 a490.2.2.2.1 a490.2.2.2.2.1 a490.2.2.2.2.2.1 a490.2.2.2.2.2.2).bind fun r492 =>
                      cs r492 (fun a493 =>
                        some (!(decide ((0 : Int) ≤ a493.1)))) (fun b494 =>
                        some true)
                    else
                      some false) (fun b491 =>
                    (f_impl_NodeOk.l6 N b491.2.2.2.2.2.1 0 (b491.2.2.2.2.2.1.length : Int) 0 b491.2.1 b491.2.2.1 b491.2.2.2.1 b491.2.2.2.2.1 b491.2.2.2.2.2.1 b491.2.2.2.2.2.2).bind fun r506 =>
                    cs r506 (fun a507 =>
                      some (!(decide ((0 : Int) ≤ a507.1)))) (fun b508 =>
                      some true)))
              else
                some false) (fun b421 =>
              (f_impl_NodeOk.l7 N b421.2.2.2.1 0 (b421.2.2.2.1.length : Int) 0 b421.2.1 b421.2.2.1 b421.2.2.2.1 b421.2.2.2.2.1 b421.2.2.2.2.2.1 b421.2.2.2.2.2.2).bind fun r520 =>
              cs r520 (fun a521 =>
                bif (!(decide ((0 : Int) ≤ a521.1))) then
                  (f_impl_NodeOk.l5 N a521.2.2.2.2.1 0 (a521.2.2.2.2.1.length : Int) 0 a521.2.1 a521.2.2.1 a521.2.2.2.1 a521.2.2.2.2.1 a521.2.2.2.2.2.1 a521.2.2.2.2.2.2).bind fun r523 =>
                  cs r523 (fun a524 =>
                    bif (!(decide ((0 : Int) ≤ a524.1))) then
                      (f_impl_NodeOk.l4 N a524.2.2.2.2.2.1 0 (a524.2.2.2.2.2.1.length : Int) 0 a524.2.1 a524.2.2.1 a524.2.2.2.1 a524.2.2.2.2.1 a524.2.2.2.2.2.1 a524.2.2.2.2.2.2).bind fun r526 =>
                      cs r526 (fun a527 =>
                        some (!(decide ((0 : Int) ≤ a527.1)))) (fun b528 =>
                        some true)
                    else
                      some false) (fun b525 =>
                    (f_impl_NodeOk.l6 N b525.2.2.2.2.2.1 0 (b525.2.2.2.2.2.1.length : Int) 0 b525.2.1 b525.2.2.1 b525.2.2.2.1 b525.2.2.2.2.1 b525.2.2.2.2.2.1 b525.2.2.2.2.2.2).bind fun r529 =>
                    cs r529 (fun a530 =>
                      some (!(decide ((0 : Int) ≤ a530.1)))) (fun b531 =>
                      some true))
                else
                  some false) (fun b522 =>
                (f_impl_NodeOk.l8 N b522.2.2.2.2.1 0 (b522.2.2.2.2.1.length : Int) 0 b522.2.1 b522.2.2.1 b522.2.2.2.1 b522.2.2.2.2.1 b522.2.2.2.2.2.1 b522.2.2.2.2.2.2).bind fun r543 =>
                cs r543 (fun a544 =>
                  bif (!(decide ((0 : Int) ≤ a544.1))) then
                    (f_impl_NodeOk.l6 N a544.2.2.2.2.2.1 0 (a544.2.2.2.2.2.1.length : Int) 0 a544.2.1 a544.2.2.1 a544.2.2.2.1 a544.2.2.2.2.1 a544.2.2.2.2.2.1 a544.2.2.2.2.2.2).bind fun r546 =>
                    cs r546 (fun a547 =>
                      some (!(decide ((0 : Int) ≤ a547.1)))) (fun b548 =>
                      some true)
                  else
                    some false) (fun b545 =>
                  (f_impl_NodeOk.l9 N b545.2.2.2.2.2.1 0 (b545.2.2.2.2.2.1.length : Int) 0 b545.2.1 b545.2.2.1 b545.2.2.2.1 b545.2.2.2.2.1 b545.2.2.2.2.2.1 b545.2.2.2.2.2.2).bind fun r560 =>
                  cs r560 (fun a561 =>
                    some (!(decide ((0 : Int) ≤ a561.1)))) (fun b562 =>
                    some true))))
          else
            some false
        else
          some false
      else
        some false
    else
      some false
  else
    some false
noncomputable def C47 : Con := ⟨[(.B, true, [(.int .i64), (.sl R1), (.sl R4), (.sl R6), (.sl R0)]), (.B, false, [(.int .i64)])], [(false, [.bool])], [(.int .i64), (.sl R1), (.sl R4), (.sl R6), (.sl R0), (.int .i64)], [.bool], fun (p : Int × (List (Int × List Int × Bool)) × (List (List Int × Int × List Bool × Bool × Int × Bool × Int × (List (Int × Bool)))) × (List (Int × (List (Int × Int × Bool × List Int)))) × List Int × Int) => f_impl_NodeOk p.1 p.2.1 p.2.2.1 p.2.2.2.1 p.2.2.2.2.1 p.2.2.2.2.2⟩
noncomputable def f_impl_NodeOk.l0.c : LoopCon := ⟨2046, 4, [0, 1, 4, 7, 8], ⟨[(0, .bor none R1 []), (1, .func 119 []), (4, .int .i64 0), (7, .int .i64 0), (8, .int .i64 0)], [(1006, .box [.int .i64 0, .bor (some 1) R1 [], .bor (some 2) R4 [], .bor (some 3) R6 [], .bor (some 4) R0 []]), (1022, .box [.int .i64 0])], 2046⟩, [(.sl R1), (.int .i64), (.int .i64), (.int .i64), (.int .i64), (.sl R1), (.sl R4), (.sl R6), (.sl R0), (.int .i64)], [⟨.ret, [4], ⟨[(4, .int .i64 0)], [(1006, .box [.int .i64 0, .bor (some 1) R1 [], .bor (some 2) R4 [], .bor (some 3) R6 [], .bor (some 4) R0 []]), (1022, .box [.int .i64 0])], 2046⟩, [(.int .i64), (.int .i64), (.sl R1), (.sl R4), (.sl R6), (.sl R0), (.int .i64)]⟩, ⟨.exit 0, [4], ⟨[(4, .int .i64 0)], [(1006, .box [.int .i64 0, .bor (some 1) R1 [], .bor (some 2) R4 [], .bor (some 3) R6 [], .bor (some 4) R0 []]), (1022, .box [.int .i64 0])], 2046⟩, [(.int .i64), (.int .i64), (.sl R1), (.sl R4), (.sl R6), (.sl R0), (.int .i64)]⟩], fun (p : (List (Int × List Int × Bool)) × Int × Int × Int × Int × (List (Int × List Int × Bool)) × (List (List Int × Int × List Bool × Bool × Int × Bool × Int × (List (Int × Bool)))) × (List (Int × (List (Int × Int × Bool × List Int)))) × List Int × Int) => f_impl_NodeOk.l0 N p.1 p.2.1 p.2.2.1 p.2.2.2.1 p.2.2.2.2.1 p.2.2.2.2.2.1 p.2.2.2.2.2.2.1 p.2.2.2.2.2.2.2.1 p.2.2.2.2.2.2.2.2.1 p.2.2.2.2.2.2.2.2.2⟩
noncomputable def f_impl_NodeOk.l1.c : LoopCon := ⟨2142, 4, [0, 1, 4, 7, 8], ⟨[(0, .bor none R4 []), (1, .func 122 [.ptr 1022 0]), (4, .int .i64 0), (7, .int .i64 0), (8, .int .i64 0)], [(1006, .box [.int .i64 0, .bor (some 1) R1 [], .bor (some 2) R4 [], .bor (some 3) R6 [], .bor (some 4) R0 []]), (1022, .box [.int .i64 0])], 2142⟩, [(.sl R4), (.int .i64), (.int .i64), (.int .i64), (.int .i64), (.sl R1), (.sl R4), (.sl R6), (.sl R0), (.int .i64)], [⟨.ret, [4], ⟨[(4, .int .i64 0)], [(1006, .box [.int .i64 0, .bor (some 1) R1 [], .bor (some 2) R4 [], .bor (some 3) R6 [], .bor (some 4) R0 []]), (1022, .box [.int .i64 0])], 2142⟩, [(.int .i64), (.int .i64), (.sl R1), (.sl R4), (.sl R6), (.sl R0), (.int .i64)]⟩, ⟨.exit 0, [4], ⟨[(4, .int .i64 0)], [(1006, .box [.int .i64 0, .bor (some 1) R1 [], .bor (some 2) R4 [], .bor (some 3) R6 [], .bor (some 4) R0 []]), (1022, .box [.int .i64 0])], 2142⟩, [(.int .i64), (.int .i64), (.sl R1), (.sl R4), (.sl R6), (.sl R0), (.int .i64)]⟩], fun (p : (List (List Int × Int × List Bool × Bool × Int × Bool × Int × (List (Int × Bool)))) × Int × Int × Int × Int × (List (Int × List Int × Bool)) × (List (List Int × Int × List Bool × Bool × Int × Bool × Int × (List (Int × Bool)))) × (List (Int × (List (Int × Int × Bool × List Int)))) × List Int × Int) => f_impl_NodeOk.l1 N p.1 p.2.1 p.2.2.1 p.2.2.2.1 p.2.2.2.2.1 p.2.2.2.2.2.1 p.2.2.2.2.2.2.1 p.2.2.2.2.2.2.2.1 p.2.2.2.2.2.2.2.2.1 p.2.2.2.2.2.2.2.2.2⟩
noncomputable def f_impl_NodeOk.l2.c : LoopCon := ⟨2238, 4, [0, 1, 4, 7, 8], ⟨[(0, .bor none R6 []), (1, .func 125 []), (4, .int .i64 0), (7, .int .i64 0), (8, .int .i64 0)], [(1006, .box [.int .i64 0, .bor (some 1) R1 [], .bor (some 2) R4 [], .bor (some 3) R6 [], .bor (some 4) R0 []]), (1022, .box [.int .i64 0])], 2238⟩, [(.sl R6), (.int .i64), (.int .i64), (.int .i64), (.int .i64), (.sl R1), (.sl R4), (.sl R6), (.sl R0), (.int .i64)], [⟨.ret, [4], ⟨[(4, .int .i64 0)], [(1006, .box [.int .i64 0, .bor (some 1) R1 [], .bor (some 2) R4 [], .bor (some 3) R6 [], .bor (some 4) R0 []]), (1022, .box [.int .i64 0])], 2238⟩, [(.int .i64), (.int .i64), (.sl R1), (.sl R4), (.sl R6), (.sl R0), (.int .i64)]⟩, ⟨.exit 0, [4], ⟨[(4, .int .i64 0)], [(1006, .box [.int .i64 0, .bor (some 1) R1 [], .bor (some 2) R4 [], .bor (some 3) R6 [], .bor (some 4) R0 []]), (1022, .box [.int .i64 0])], 2238⟩, [(.int .i64), (.int .i64), (.sl R1), (.sl R4), (.sl R6), (.sl R0), (.int .i64)]⟩], fun (p : (List (Int × (List (Int × Int × Bool × List Int)))) × Int × Int × Int × Int × (List (Int × List Int × Bool)) × (List (List Int × Int × List Bool × Bool × Int × Bool × Int × (List (Int × Bool)))) × (List (Int × (List (Int × Int × Bool × List Int)))) × List Int × Int) => f_impl_NodeOk.l2 N p.1 p.2.1 p.2.2.1 p.2.2.2.1 p.2.2.2.2.1 p.2.2.2.2.2.1 p.2.2.2.2.2.2.1 p.2.2.2.2.2.2.2.1 p.2.2.2.2.2.2.2.2.1 p.2.2.2.2.2.2.2.2.2⟩
noncomputable def f_impl_NodeOk.l3.c : LoopCon := ⟨2334, 4, [0, 1, 4, 7, 8], ⟨[(0, .bor none R0 []), (1, .func 128 []), (4, .int .i64 0), (7, .int .i64 0), (8, .int .i64 0)], [(1006, .box [.int .i64 0, .bor (some 1) R1 [], .bor (some 2) R4 [], .bor (some 3) R6 [], .bor (some 4) R0 []]), (1022, .box [.int .i64 0])], 2334⟩, [(.sl R0), (.int .i64), (.int .i64), (.int .i64), (.int .i64), (.sl R1), (.sl R4), (.sl R6), (.sl R0), (.int .i64)], [⟨.ret, [4], ⟨[(4, .int .i64 0)], [(1006, .box [.int .i64 0, .bor (some 1) R1 [], .bor (some 2) R4 [], .bor (some 3) R6 [], .bor (some 4) R0 []]), (1022, .box [.int .i64 0])], 2334⟩, [(.int .i64), (.int .i64), (.sl R1), (.sl R4), (.sl R6), (.sl R0), (.int .i64)]⟩, ⟨.exit 0, [4], ⟨[(4, .int .i64 0)], [(1006, .box [.int .i64 0, .bor (some 1) R1 [], .bor (some 2) R4 [], .bor (some 3) R6 [], .bor (some 4) R0 []]), (1022, .box [.int .i64 0])], 2334⟩, [(.int .i64), (.int .i64), (.sl R1), (.sl R4), (.sl R6), (.sl R0), (.int .i64)]⟩], fun (p : List Int × Int × Int × Int × Int × (List (Int × List Int × Bool)) × (List (List Int × Int × List Bool × Bool × Int × Bool × Int × (List (Int × Bool)))) × (List (Int × (List (Int × Int × Bool × List Int)))) × List Int × Int) => f_impl_NodeOk.l3 N p.1 p.2.1 p.2.2.1 p.2.2.2.1 p.2.2.2.2.1 p.2.2.2.2.2.1 p.2.2.2.2.2.2.1 p.2.2.2.2.2.2.2.1 p.2.2.2.2.2.2.2.2.1 p.2.2.2.2.2.2.2.2.2⟩
noncomputable def f_impl_NodeOk.l4.c : LoopCon := ⟨2350, 4, [0, 1, 4, 7, 8], ⟨[(0, .bor none R0 []), (1, .func 128 []), (4, .int .i64 0), (7, .int .i64 0), (8, .int .i64 0)], [(1006, .box [.int .i64 0, .bor (some 1) R1 [], .bor (some 2) R4 [], .bor (some 3) R6 [], .bor (some 4) R0 []]), (1022, .box [.int .i64 0])], 2350⟩, [(.sl R0), (.int .i64), (.int .i64), (.int .i64), (.int .i64), (.sl R1), (.sl R4), (.sl R6), (.sl R0), (.int .i64)], [⟨.ret, [4], ⟨[(4, .int .i64 0)], [(1006, .box [.int .i64 0, .bor (some 1) R1 [], .bor (some 2) R4 [], .bor (some 3) R6 [], .bor (some 4) R0 []]), (1022, .box [.int .i64 0])], 2350⟩, [(.int .i64), (.int .i64), (.sl R1), (.sl R4), (.sl R6), (.sl R0), (.int .i64)]⟩, ⟨.exit 0, [4], ⟨[(4, .int .i64 0)], [(1006, .box [.int .i64 0, .bor (some 1) R1 [], .bor (some 2) R4 [], .bor (some 3) R6 [], .bor (some 4) R0 []]), (1022, .box [.int .i64 0])], 2350⟩, [(.int .i64), (.int .i64), (.sl R1), (.sl R4), (.sl R6), (.sl R0), (.int .i64)]⟩], fun (p : List Int × Int × Int × Int × Int × (List (Int × List Int × Bool)) × (List (List Int × Int × List Bool × Bool × Int × Bool × Int × (List (Int × Bool)))) × (List (Int × (List (Int × Int × Bool × List Int)))) × List Int × Int) => f_impl_NodeOk.l4 N p.1 p.2.1 p.2.2.1 p.2.2.2.1 p.2.2.2.2.1 p.2.2.2.2.2.1 p.2.2.2.2.2.2.1 p.2.2.2.2.2.2.2.1 p.2.2.2.2.2.2.2.2.1 p.2.2.2.2.2.2.2.2.2⟩
noncomputable def f_impl_NodeOk.l5.c : LoopCon := ⟨2254, 4, [0, 1, 4, 7, 8], ⟨[(0, .bor none R6 []), (1, .func 125 []), (4, .int .i64 0), (7, .int .i64 0), (8, .int .i64 0)], [(1006, .box [.int .i64 0, .bor (some 1) R1 [], .bor (some 2) R4 [], .bor (some 3) R6 [], .bor (some 4) R0 []]), (1022, .box [.int .i64 0])], 2254⟩, [(.sl R6), (.int .i64), (.int .i64), (.int .i64), (.int .i64), (.sl R1), (.sl R4), (.sl R6), (.sl R0), (.int .i64)], [⟨.ret, [4], ⟨[(4, .int .i64 0)], [(1006, .box [.int .i64 0, .bor (some 1) R1 [], .bor (some 2) R4 [], .bor (some 3) R6 [], .bor (some 4) R0 []]), (1022, .box [.int .i64 0])], 2254⟩, [(.int .i64), (.int .i64), (.sl R1), (.sl R4), (.sl R6), (.sl R0), (.int .i64)]⟩, ⟨.exit 0, [4], ⟨[(4, .int .i64 0)], [(1006, .box [.int .i64 0, .bor (some 1) R1 [], .bor (some 2) R4 [], .bor (some 3) R6 [], .bor (some 4) R0 []]), (1022, .box [.int .i64 0])], 2254⟩, [(.int .i64), (.int .i64), (.sl R1), (.sl R4), (.sl R6), (.sl R0), (.int .i64)]⟩], fun (p : (List (Int × (List (Int × Int × Bool × List Int)))) × Int × Int × Int × Int × (List (Int × List Int × Bool)) × (List (List Int × Int × List Bool × Bool × Int × Bool × Int × (List (Int × Bool)))) × (List (Int × (List (Int × Int × Bool × List Int)))) × List Int × Int) => f_impl_NodeOk.l5 N p.1 p.2.1 p.2.2.1 p.2.2.2.1 p.2.2.2.2.1 p.2.2.2.2.2.1 p.2.2.2.2.2.2.1 p.2.2.2.2.2.2.2.1 p.2.2.2.2.2.2.2.2.1 p.2.2.2.2.2.2.2.2.2⟩
noncomputable def f_impl_NodeOk.l6.c : LoopCon := ⟨2366, 4, [0, 1, 4, 7, 8], ⟨[(0, .bor none R0 []), (1, .func 128 []), (4, .int .i64 0), (7, .int .i64 0), (8, .int .i64 0)], [(1006, .box [.int .i64 0, .bor (some 1) R1 [], .bor (some 2) R4 [], .bor (some 3) R6 [], .bor (some 4) R0 []]), (1022, .box [.int .i64 0])], 2366⟩, [(.sl R0), (.int .i64), (.int .i64), (.int .i64), (.int .i64), (.sl R1), (.sl R4), (.sl R6), (.sl R0), (.int .i64)], [⟨.ret, [4], ⟨[(4, .int .i64 0)], [(1006, .box [.int .i64 0, .bor (some 1) R1 [], .bor (some 2) R4 [], .bor (some 3) R6 [], .bor (some 4) R0 []]), (1022, .box [.int .i64 0])], 2366⟩, [(.int .i64), (.int .i64), (.sl R1), (.sl R4), (.sl R6), (.sl R0), (.int .i64)]⟩, ⟨.exit 0, [4], ⟨[(4, .int .i64 0)], [(1006, .box [.int .i64 0, .bor (some 1) R1 [], .bor (some 2) R4 [], .bor (some 3) R6 [], .bor (some 4) R0 []]), (1022, .box [.int .i64 0])], 2366⟩, [(.int .i64), (.int .i64), (.sl R1), (.sl R4), (.sl R6), (.sl R0), (.int .i64)]⟩], fun (p : List Int × Int × Int × Int × Int × (List (Int × List Int × Bool)) × (List (List Int × Int × List Bool × Bool × Int × Bool × Int × (List (Int × Bool)))) × (List (Int × (List (Int × Int × Bool × List Int)))) × List Int × Int) => f_impl_NodeOk.l6 N p.1 p.2.1 p.2.2.1 p.2.2.2.1 p.2.2.2.2.1 p.2.2.2.2.2.1 p.2.2.2.2.2.2.1 p.2.2.2.2.2.2.2.1 p.2.2.2.2.2.2.2.2.1 p.2.2.2.2.2.2.2.2.2⟩
noncomputable def f_impl_NodeOk.l7.c : LoopCon := ⟨2158, 4, [0, 1, 4, 7, 8], ⟨[(0, .bor none R4 []), (1, .func 122 [.ptr 1022 0]), (4, .int .i64 0), (7, .int .i64 0), (8, .int .i64 0)], [(1006, .box [.int .i64 0, .bor (some 1) R1 [], .bor (some 2) R4 [], .bor (some 3) R6 [], .bor (some 4) R0 []]), (1022, .box [.int .i64 0])], 2158⟩, [(.sl R4), (.int .i64), (.int .i64), (.int .i64), (.int .i64), (.sl R1), (.sl R4), (.sl R6), (.sl R0), (.int .i64)], [⟨.ret, [4], ⟨[(4, .int .i64 0)], [(1006, .box [.int .i64 0, .bor (some 1) R1 [], .bor (some 2) R4 [], .bor (some 3) R6 [], .bor (some 4) R0 []]), (1022, .box [.int .i64 0])], 2158⟩, [(.int .i64), (.int .i64), (.sl R1), (.sl R4), (.sl R6), (.sl R0), (.int .i64)]⟩, ⟨.exit 0, [4], ⟨[(4, .int .i64 0)], [(1006, .box [.int .i64 0, .bor (some 1) R1 [], .bor (some 2) R4 [], .bor (some 3) R6 [], .bor (some 4) R0 []]), (1022, .box [.int .i64 0])], 2158⟩, [(.int .i64), (.int .i64), (.sl R1), (.sl R4), (.sl R6), (.sl R0), (.int .i64)]⟩], fun (p : (List (List Int × Int × List Bool × Bool × Int × Bool × Int × (List (Int × Bool)))) × Int × Int × Int × Int × (List (Int × List Int × Bool)) × (List (List Int × Int × List Bool × Bool × Int × Bool × Int × (List (Int × Bool)))) × (List (Int × (List (Int × Int × Bool × List Int)))) × List Int × Int) => f_impl_NodeOk.l7 N p.1 p.2.1 p.2.2.1 p.2.2.2.1 p.2.2.2.2.1 p.2.2.2.2.2.1 p.2.2.2.2.2.2.1 p.2.2.2.2.2.2.2.1 p.2.2.2.2.2.2.2.2.1 p.2.2.2.2.2.2.2.2.2⟩
noncomputable def f_impl_NodeOk.l8.c : LoopCon := ⟨2270, 4, [0, 1, 4, 7, 8], ⟨[(0, .bor none R6 []), (1, .func 125 []), (4, .int .i64 0), (7, .int .i64 0), (8, .int .i64 0)], [(1006, .box [.int .i64 0, .bor (some 1) R1 [], .bor (some 2) R4 [], .bor (some 3) R6 [], .bor (some 4) R0 []]), (1022, .box [.int .i64 0])], 2270⟩, [(.sl R6), (.int .i64), (.int .i64), (.int .i64), (.int .i64), (.sl R1), (.sl R4), (.sl R6), (.sl R0), (.int .i64)], [⟨.ret, [4], ⟨[(4, .int .i64 0)], [(1006, .box [.int .i64 0, .bor (some 1) R1 [], .bor (some 2) R4 [], .bor (some 3) R6 [], .bor (some 4) R0 []]), (1022, .box [.int .i64 0])], 2270⟩, [(.int .i64), (.int .i64), (.sl R1), (.sl R4), (.sl R6), (.sl R0), (.int .i64)]⟩, ⟨.exit 0, [4], ⟨[(4, .int .i64 0)], [(1006, .box [.int .i64 0, .bor (some 1) R1 [], .bor (some 2) R4 [], .bor (some 3) R6 [], .bor (some 4) R0 []]), (1022, .box [.int .i64 0])], 2270⟩, [(.int .i64), (.int .i64), (.sl R1), (.sl R4), (.sl R6), (.sl R0), (.int .i64)]⟩], fun (p : (List (Int × (List (Int × Int × Bool × List Int)))) × Int × Int × Int × Int × (List (Int × List Int × Bool)) × (List (List Int × Int × List Bool × Bool × Int × Bool × Int × (List (Int × Bool)))) × (List (Int × (List (Int × Int × Bool × List Int)))) × List Int × Int) => f_impl_NodeOk.l8 N p.1 p.2.1 p.2.2.1 p.2.2.2.1 p.2.2.2.2.1 p.2.2.2.2.2.1 p.2.2.2.2.2.2.1 p.2.2.2.2.2.2.2.1 p.2.2.2.2.2.2.2.2.1 p.2.2.2.2.2.2.2.2.2⟩
noncomputable def f_impl_NodeOk.l9.c : LoopCon := ⟨2382, 4, [0, 1, 4, 7, 8], ⟨[(0, .bor none R0 []), (1, .func 128 []), (4, .int .i64 0), (7, .int .i64 0), (8, .int .i64 0)], [(1006, .box [.int .i64 0, .bor (some 1) R1 [], .bor (some 2) R4 [], .bor (some 3) R6 [], .bor (some 4) R0 []]), (1022, .box [.int .i64 0])], 2382⟩, [(.sl R0), (.int .i64), (.int .i64), (.int .i64), (.int .i64), (.sl R1), (.sl R4), (.sl R6), (.sl R0), (.int .i64)], [⟨.ret, [4], ⟨[(4, .int .i64 0)], [(1006, .box [.int .i64 0, .bor (some 1) R1 [], .bor (some 2) R4 [], .bor (some 3) R6 [], .bor (some 4) R0 []]), (1022, .box [.int .i64 0])], 2382⟩, [(.int .i64), (.int .i64), (.sl R1), (.sl R4), (.sl R6), (.sl R0), (.int .i64)]⟩, ⟨.exit 0, [4], ⟨[(4, .int .i64 0)], [(1006, .box [.int .i64 0, .bor (some 1) R1 [], .bor (some 2) R4 [], .bor (some 3) R6 [], .bor (some 4) R0 []]), (1022, .box [.int .i64 0])], 2382⟩, [(.int .i64), (.int .i64), (.sl R1), (.sl R4), (.sl R6), (.sl R0), (.int .i64)]⟩], fun (p : List Int × Int × Int × Int × Int × (List (Int × List Int × Bool)) × (List (List Int × Int × List Bool × Bool × Int × Bool × Int × (List (Int × Bool)))) × (List (Int × (List (Int × Int × Bool × List Int)))) × List Int × Int) => f_impl_NodeOk.l9 N p.1 p.2.1 p.2.2.1 p.2.2.2.1 p.2.2.2.2.1 p.2.2.2.2.2.1 p.2.2.2.2.2.2.1 p.2.2.2.2.2.2.2.1 p.2.2.2.2.2.2.2.2.1 p.2.2.2.2.2.2.2.2.2⟩
noncomputable abbrev K47 : Cons := [(100, C100), (119, C119), (122, C122), (125, C125), (128, C128)]
noncomputable abbrev L47 : List (Nat × Loops) := [(185, [(2, f_impl_NodeOk.l0.c)]), (186, [(2, f_impl_NodeOk.l1.c), (2, f_impl_NodeOk.l7.c)]), (189, [(2, f_impl_NodeOk.l2.c), (2, f_impl_NodeOk.l5.c), (2, f_impl_NodeOk.l8.c)]), (192, [(2, f_impl_NodeOk.l3.c), (2, f_impl_NodeOk.l4.c), (2, f_impl_NodeOk.l6.c), (2, f_impl_NodeOk.l9.c)])]
abbrev Q47 : List (Nat × List (Int × Nat) × Nat) := []
noncomputable abbrev X47 : Nat → Ctx := ctxOf tb K47 L47 Q47
theorem f_impl_NodeOk.l0.ok : ∀ n p, (fun (p : (List (Int × List Int × Bool)) × Int × Int × Int × Int × (List (Int × List Int × Bool)) × (List (List Int × Int × List Bool × Bool × Int × Bool × Int × (List (Int × Bool)))) × (List (Int × (List (Int × Int × Bool × List Int)))) × List Int × Int) => f_impl_NodeOk.l0 n p.1 p.2.1 p.2.2.1 p.2.2.2.1 p.2.2.2.2.1 p.2.2.2.2.2.1 p.2.2.2.2.2.2.1 p.2.2.2.2.2.2.2.1 p.2.2.2.2.2.2.2.2.1 p.2.2.2.2.2.2.2.2.2) p = iterD (roundOf fs X47 4 185 2 true f_impl_NodeOk.l0.c) n p :=
  iter_of (l := fun n => fun (p : (List (Int × List Int × Bool)) × Int × Int × Int × Int × (List (Int × List Int × Bool)) × (List (List Int × Int × List Bool × Bool × Int × Bool × Int × (List (Int × Bool)))) × (List (Int × (List (Int × Int × Bool × List Int)))) × List Int × Int) => f_impl_NodeOk.l0 n p.1 p.2.1 p.2.2.1 p.2.2.2.1 p.2.2.2.2.1 p.2.2.2.2.2.1 p.2.2.2.2.2.2.1 p.2.2.2.2.2.2.2.1 p.2.2.2.2.2.2.2.2.1 p.2.2.2.2.2.2.2.2.2) (fun _ => rfl) (fun n p => by kernel_rfl)
theorem f_impl_NodeOk.l1.ok : ∀ n p, (fun (p : (List (List Int × Int × List Bool × Bool × Int × Bool × Int × (List (Int × Bool)))) × Int × Int × Int × Int × (List (Int × List Int × Bool)) × (List (List Int × Int × List Bool × Bool × Int × Bool × Int × (List (Int × Bool)))) × (List (Int × (List (Int × Int × Bool × List Int)))) × List Int × Int) => f_impl_NodeOk.l1 n p.1 p.2.1 p.2.2.1 p.2.2.2.1 p.2.2.2.2.1 p.2.2.2.2.2.1 p.2.2.2.2.2.2.1 p.2.2.2.2.2.2.2.1 p.2.2.2.2.2.2.2.2.1 p.2.2.2.2.2.2.2.2.2) p = iterD (roundOf fs X47 4 186 2 true f_impl_NodeOk.l1.c) n p :=
  iter_of (l := fun n => fun (p : (List (List Int × Int × List Bool × Bool × Int × Bool × Int × (List (Int × Bool)))) × Int × Int × Int × Int × (List (Int × List Int × Bool)) × (List (List Int × Int × List Bool × Bool × Int × Bool × Int × (List (Int × Bool)))) × (List (Int × (List (Int × Int × Bool × List Int)))) × List Int × Int) => f_impl_NodeOk.l1 n p.1 p.2.1 p.2.2.1 p.2.2.2.1 p.2.2.2.2.1 p.2.2.2.2.2.1 p.2.2.2.2.2.2.1 p.2.2.2.2.2.2.2.1 p.2.2.2.2.2.2.2.2.1 p.2.2.2.2.2.2.2.2.2) (fun _ => rfl) (fun n p => by kernel_rfl)
theorem f_impl_NodeOk.l2.ok : ∀ n p, (fun (p : (List (Int × (List (Int × Int × Bool × List Int)))) × Int × Int × Int × Int × (List (Int × List Int × Bool)) × (List (List Int × Int × List Bool × Bool × Int × Bool × Int × (List (Int × Bool)))) × (List (Int × (List (Int × Int × Bool × List Int)))) × List Int × Int) => f_impl_NodeOk.l2 n p.1 p.2.1 p.2.2.1 p.2.2.2.1 p.2.2.2.2.1 p.2.2.2.2.2.1 p.2.2.2.2.2.2.1 p.2.2.2.2.2.2.2.1 p.2.2.2.2.2.2.2.2.1 p.2.2.2.2.2.2.2.2.2) p = iterD (roundOf fs X47 4 189 2 true f_impl_NodeOk.l2.c) n p :=
  iter_of (l := fun n => fun (p : (List (Int × (List (Int × Int × Bool × List Int)))) × Int × Int × Int × Int × (List (Int × List Int × Bool)) × (List (List Int × Int × List Bool × Bool × Int × Bool × Int × (List (Int × Bool)))) × (List (Int × (List (Int × Int × Bool × List Int)))) × List Int × Int) => f_impl_NodeOk.l2 n p.1 p.2.1 p.2.2.1 p.2.2.2.1 p.2.2.2.2.1 p.2.2.2.2.2.1 p.2.2.2.2.2.2.1 p.2.2.2.2.2.2.2.1 p.2.2.2.2.2.2.2.2.1 p.2.2.2.2.2.2.2.2.2) (fun _ => rfl) (fun n p => by kernel_rfl)
theorem f_impl_NodeOk.l3.ok : ∀ n p, (fun (p : List Int × Int × Int × Int × Int × (List (Int × List Int × Bool)) × (List (List Int × Int × List Bool × Bool × Int × Bool × Int × (List (Int × Bool)))) × (List (Int × (List (Int × Int × Bool × List Int)))) × List Int × Int) => f_impl_NodeOk.l3 n p.1 p.2.1 p.2.2.1 p.2.2.2.1 p.2.2.2.2.1 p.2.2.2.2.2.1 p.2.2.2.2.2.2.1 p.2.2.2.2.2.2.2.1 p.2.2.2.2.2.2.2.2.1 p.2.2.2.2.2.2.2.2.2) p = iterD (roundOf fs X47 4 192 2 true f_impl_NodeOk.l3.c) n p :=
  iter_of (l := fun n => fun (p : List Int × Int × Int × Int × Int × (List (Int × List Int × Bool)) × (List (List Int × Int × List Bool × Bool × Int × Bool × Int × (List (Int × Bool)))) × (List (Int × (List (Int × Int × Bool × List Int)))) × List Int × Int) => f_impl_NodeOk.l3 n p.1 p.2.1 p.2.2.1 p.2.2.2.1 p.2.2.2.2.1 p.2.2.2.2.2.1 p.2.2.2.2.2.2.1 p.2.2.2.2.2.2.2.1 p.2.2.2.2.2.2.2.2.1 p.2.2.2.2.2.2.2.2.2) (fun _ => rfl) (fun n p => by kernel_rfl)
theorem f_impl_NodeOk.l4.ok : ∀ n p, (fun (p : List Int × Int × Int × Int × Int × (List (Int × List Int × Bool)) × (List (List Int × Int × List Bool × Bool × Int × Bool × Int × (List (Int × Bool)))) × (List (Int × (List (Int × Int × Bool × List Int)))) × List Int × Int) => f_impl_NodeOk.l4 n p.1 p.2.1 p.2.2.1 p.2.2.2.1 p.2.2.2.2.1 p.2.2.2.2.2.1 p.2.2.2.2.2.2.1 p.2.2.2.2.2.2.2.1 p.2.2.2.2.2.2.2.2.1 p.2.2.2.2.2.2.2.2.2) p = iterD (roundOf fs X47 4 192 2 true f_impl_NodeOk.l4.c) n p :=
  iter_of (l := fun n => fun (p : List Int × Int × Int × Int × Int × (List (Int × List Int × Bool)) × (List (List Int × Int × List Bool × Bool × Int × Bool × Int × (List (Int × Bool)))) × (List (Int × (List (Int × Int × Bool × List Int)))) × List Int × Int) => f_impl_NodeOk.l4 n p.1 p.2.1 p.2.2.1 p.2.2.2.1 p.2.2.2.2.1 p.2.2.2.2.2.1 p.2.2.2.2.2.2.1 p.2.2.2.2.2.2.2.1 p.2.2.2.2.2.2.2.2.1 p.2.2.2.2.2.2.2.2.2) (fun _ => rfl) (fun n p => by kernel_rfl)
theorem f_impl_NodeOk.l5.ok : ∀ n p, (fun (p : (List (Int × (List (Int × Int × Bool × List Int)))) × Int × Int × Int × Int × (List (Int × List Int × Bool)) × (List (List Int × Int × List Bool × Bool × Int × Bool × Int × (List (Int × Bool)))) × (List (Int × (List (Int × Int × Bool × List Int)))) × List Int × Int) => f_impl_NodeOk.l5 n p.1 p.2.1 p.2.2.1 p.2.2.2.1 p.2.2.2.2.1 p.2.2.2.2.2.1 p.2.2.2.2.2.2.1 p.2.2.2.2.2.2.2.1 p.2.2.2.2.2.2.2.2.1 p.2.2.2.2.2.2.2.2.2) p = iterD (roundOf fs X47 4 189 2 true f_impl_NodeOk.l5.c) n p :=
  iter_of (l := fun n => fun (p : (List (Int × (List (Int × Int × Bool × List Int)))) × Int × Int × Int × Int × (List (Int × List Int × Bool)) × (List (List Int × Int × List Bool × Bool × Int × Bool × Int × (List (Int × Bool)))) × (List (Int × (List (Int × Int × Bool × List Int)))) × List Int × Int) => f_impl_NodeOk.l5 n p.1 p.2.1 p.2.2.1 p.2.2.2.1 p.2.2.2.2.1 p.2.2.2.2.2.1 p.2.2.2.2.2.2.1 p.2.2.2.2.2.2.2.1 p.2.2.2.2.2.2.2.2.1 p.2.2.2.2.2.2.2.2.2) (fun _ => rfl) (fun n p => by kernel_rfl)
theorem f_impl_NodeOk.l6.ok : ∀ n p, (fun (p : List Int × Int × Int × Int × Int × (List (Int × List Int × Bool)) × (List (List Int × Int × List Bool × Bool × Int × Bool × Int × (List (Int × Bool)))) × (List (Int × (List (Int × Int × Bool × List Int)))) × List Int × Int) => f_impl_NodeOk.l6 n p.1 p.2.1 p.2.2.1 p.2.2.2.1 p.2.2.2.2.1 p.2.2.2.2.2.1 p.2.2.2.2.2.2.1 p.2.2.2.2.2.2.2.1 p.2.2.2.2.2.2.2.2.1 p.2.2.2.2.2.2.2.2.2) p = iterD (roundOf fs X47 4 192 2 true f_impl_NodeOk.l6.c) n p :=
  iter_of (l := fun n => fun (p : List Int × Int × Int × Int × Int × (List (Int × List Int × Bool)) × (List (List Int × Int × List Bool × Bool × Int × Bool × Int × (List (Int × Bool)))) × (List (Int × (List (Int × Int × Bool × List Int)))) × List Int × Int) => f_impl_NodeOk.l6 n p.1 p.2.1 p.2.2.1 p.2.2.2.1 p.2.2.2.2.1 p.2.2.2.2.2.1 p.2.2.2.2.2.2.1 p.2.2.2.2.2.2.2.1 p.2.2.2.2.2.2.2.2.1 p.2.2.2.2.2.2.2.2.2) (fun _ => rfl) (fun n p => by kernel_rfl)
theorem f_impl_NodeOk.l7.ok : ∀ n p, (fun (p : (List (List Int × Int × List Bool × Bool × Int × Bool × Int × (List (Int × Bool)))) × Int × Int × Int × Int × (List (Int × List Int × Bool)) × (List (List Int × Int × List Bool × Bool × Int × Bool × Int × (List (Int × Bool)))) × (List (Int × (List (Int × Int × Bool × List Int)))) × List Int × Int) => f_impl_NodeOk.l7 n p.1 p.2.1 p.2.2.1 p.2.2.2.1 p.2.2.2.2.1 p.2.2.2.2.2.1 p.2.2.2.2.2.2.1 p.2.2.2.2.2.2.2.1 p.2.2.2.2.2.2.2.2.1 p.2.2.2.2.2.2.2.2.2) p = iterD (roundOf fs X47 4 186 2 true f_impl_NodeOk.l7.c) n p :=
  iter_of (l := fun n => fun (p : (List (List Int × Int × List Bool × Bool × Int × Bool × Int × (List (Int × Bool)))) × Int × Int × Int × Int × (List (Int × List Int × Bool)) × (List (List Int × Int × List Bool × Bool × Int × Bool × Int × (List (Int × Bool)))) × (List (Int × (List (Int × Int × Bool × List Int)))) × List Int × Int) => f_impl_NodeOk.l7 n p.1 p.2.1 p.2.2.1 p.2.2.2.1 p.2.2.2.2.1 p.2.2.2.2.2.1 p.2.2.2.2.2.2.1 p.2.2.2.2.2.2.2.1 p.2.2.2.2.2.2.2.2.1 p.2.2.2.2.2.2.2.2.2) (fun _ => rfl) (fun n p => by kernel_rfl)
theorem f_impl_NodeOk.l8.ok : ∀ n p, (fun (p : (List (Int × (List (Int × Int × Bool × List Int)))) × Int × Int × Int × Int × (List (Int × List Int × Bool)) × (List (List Int × Int × List Bool × Bool × Int × Bool × Int × (List (Int × Bool)))) × (List (Int × (List (Int × Int × Bool × List Int)))) × List Int × Int) => f_impl_NodeOk.l8 n p.1 p.2.1 p.2.2.1 p.2.2.2.1 p.2.2.2.2.1 p.2.2.2.2.2.1 p.2.2.2.2.2.2.1 p.2.2.2.2.2.2.2.1 p.2.2.2.2.2.2.2.2.1 p.2.2.2.2.2.2.2.2.2) p = iterD (roundOf fs X47 4 189 2 true f_impl_NodeOk.l8.c) n p :=
  iter_of (l := fun n => fun (p : (List (Int × (List (Int × Int × Bool × List Int)))) × Int × Int × Int × Int × (List (Int × List Int × Bool)) × (List (List Int × Int × List Bool × Bool × Int × Bool × Int × (List (Int × Bool)))) × (List (Int × (List (Int × Int × Bool × List Int)))) × List Int × Int) => f_impl_NodeOk.l8 n p.1 p.2.1 p.2.2.1 p.2.2.2.1 p.2.2.2.2.1 p.2.2.2.2.2.1 p.2.2.2.2.2.2.1 p.2.2.2.2.2.2.2.1 p.2.2.2.2.2.2.2.2.1 p.2.2.2.2.2.2.2.2.2) (fun _ => rfl) (fun n p => by kernel_rfl)
theorem f_impl_NodeOk.l9.ok : ∀ n p, (fun (p : List Int × Int × Int × Int × Int × (List (Int × List Int × Bool)) × (List (List Int × Int × List Bool × Bool × Int × Bool × Int × (List (Int × Bool)))) × (List (Int × (List (Int × Int × Bool × List Int)))) × List Int × Int) => f_impl_NodeOk.l9 n p.1 p.2.1 p.2.2.1 p.2.2.2.1 p.2.2.2.2.1 p.2.2.2.2.2.1 p.2.2.2.2.2.2.1 p.2.2.2.2.2.2.2.1 p.2.2.2.2.2.2.2.2.1 p.2.2.2.2.2.2.2.2.2) p = iterD (roundOf fs X47 4 192 2 true f_impl_NodeOk.l9.c) n p :=
  iter_of (l := fun n => fun (p : List Int × Int × Int × Int × Int × (List (Int × List Int × Bool)) × (List (List Int × Int × List Bool × Bool × Int × Bool × Int × (List (Int × Bool)))) × (List (Int × (List (Int × Int × Bool × List Int)))) × List Int × Int) => f_impl_NodeOk.l9 n p.1 p.2.1 p.2.2.1 p.2.2.2.1 p.2.2.2.2.1 p.2.2.2.2.2.1 p.2.2.2.2.2.2.1 p.2.2.2.2.2.2.2.1 p.2.2.2.2.2.2.2.2.1 p.2.2.2.2.2.2.2.2.2) (fun _ => rfl) (fun n p => by kernel_rfl)
theorem E47 : ∀ x, funRun fs X47 6 47 C47 x = C47.fn x := fun x => by kernel_rfl
theorem B47 : ConB Tryz.prog 47 C47 := ConB.make FS MIX TY (cons := K47) (L := L47) (ptrs := Q47) ⟨S100, S119, S122, S125, S128, trivial⟩ trivial ⟨⟨⟨N, fun p => f_impl_NodeOk.l0.ok N p⟩, trivial⟩, ⟨⟨N, fun p => f_impl_NodeOk.l1.ok N p⟩, ⟨N, fun p => f_impl_NodeOk.l7.ok N p⟩, trivial⟩, ⟨⟨N, fun p => f_impl_NodeOk.l2.ok N p⟩, ⟨N, fun p => f_impl_NodeOk.l5.ok N p⟩, ⟨N, fun p => f_impl_NodeOk.l8.ok N p⟩, trivial⟩, ⟨⟨N, fun p => f_impl_NodeOk.l3.ok N p⟩, ⟨N, fun p => f_impl_NodeOk.l4.ok N p⟩, ⟨N, fun p => f_impl_NodeOk.l6.ok N p⟩, ⟨N, fun p => f_impl_NodeOk.l9.ok N p⟩, trivial⟩, trivial⟩ rfl rfl E47
theorem S47 : ConS Tryz.prog 47 C47 := B47.call rfl
/-! impl.PacketOk: function 143 -/
noncomputable def f_impl_PacketOk (x0 : Int) (x1 : Int) (x2 : Bool) (x3 : Int) (x4 : Int) (x5 : Int) (x6 : Bool) (x7 : List Int) (x8 : Int) : Option (Bool) :=
  (f_impl_isOf x0 x8).bind fun y563 =>
  bif (!y563) then
    some false
  else
    (f_impl_isOf x1 x8).bind fun y564 =>
    bif (!y564) then
      some false
    else
      (f_impl_isSeq x3).bind fun y565 =>
      bif (!y565) then
        some false
      else
        bif x2 then
          bif (decide (x4 = (0 : Int))) then
            bif (decide (x5 = (0 : Int))) then
              bif (!x6) then
                some (decide ((x7.length : Int) = (0 : Int)))
              else
                some false
            else
              some false
          else
            some false
        else
          (f_impl_MsgOk x4 x5 x6 x7).bind fun y566 =>
          some y566
noncomputable def C143 : Con := ⟨[(.B, true, [(.int .i64), (.int .i64), .bool, (.int .i64), (.int .i64), (.int .i64), .bool, (.sl R0)]), (.B, false, [(.int .i64)])], [(false, [.bool])], [(.int .i64), (.int .i64), .bool, (.int .i64), (.int .i64), (.int .i64), .bool, (.sl R0), (.int .i64)], [.bool], fun (p : Int × Int × Bool × Int × Int × Int × Bool × List Int × Int) => f_impl_PacketOk p.1 p.2.1 p.2.2.1 p.2.2.2.1 p.2.2.2.2.1 p.2.2.2.2.2.1 p.2.2.2.2.2.2.1 p.2.2.2.2.2.2.2.1 p.2.2.2.2.2.2.2.2⟩
noncomputable abbrev K143 : Cons := [(100, C100), (110, C110), (129, C129)]
noncomputable abbrev L143 : List (Nat × Loops) := []
abbrev Q143 : List (Nat × List (Int × Nat) × Nat) := []
noncomputable abbrev X143 : Nat → Ctx := ctxOf tb K143 L143 Q143
theorem E143 : ∀ x, funRun fs X143 6 143 C143 x = C143.fn x := fun x => by kernel_rfl
theorem B143 : ConB Tryz.prog 143 C143 := ConB.make FS MIX TY (cons := K143) (L := L143) (ptrs := Q143) ⟨S100, S110, S129, trivial⟩ trivial trivial rfl rfl E143
theorem S143 : ConS Tryz.prog 143 C143 := B143.call rfl
/-! impl.WorldOk$1: function 142 -/
noncomputable def f_impl_WorldOk_1 (x0 : Int) (x1 : Int) (x2 : Bool) (x3 : Int) (x4 : Int) (x5 : Int) (x6 : Bool) (x7 : List Int) (x8 : Int) (x9 : List (Int × (List (Int × List Int × Bool)) × (List (List Int × Int × List Bool × Bool × Int × Bool × Int × (List (Int × Bool)))) × (List (Int × (List (Int × Int × Bool × List Int)))) × List Int)) (x10 : List (Int × Int × Bool × Int × Int × Int × Bool × List Int)) : Option (Bool) :=
  (f_impl_PacketOk x0 x1 x2 x3 x4 x5 x6 x7 x8).bind fun y567 =>
  some (!y567)
noncomputable def C142 : Con := ⟨[(.B, true, [(.int .i64), (.int .i64), .bool, (.int .i64), (.int .i64), (.int .i64), .bool, (.sl R0)]), (.Q, false, [(.int .i64), (.sl R7), (.sl R8)])], [(false, [.bool])], [(.int .i64), (.int .i64), .bool, (.int .i64), (.int .i64), (.int .i64), .bool, (.sl R0), (.int .i64), (.sl R7), (.sl R8)], [.bool], fun (p : Int × Int × Bool × Int × Int × Int × Bool × List Int × Int × (List (Int × (List (Int × List Int × Bool)) × (List (List Int × Int × List Bool × Bool × Int × Bool × Int × (List (Int × Bool)))) × (List (Int × (List (Int × Int × Bool × List Int)))) × List Int)) × (List (Int × Int × Bool × Int × Int × Int × Bool × List Int))) => f_impl_WorldOk_1 p.1 p.2.1 p.2.2.1 p.2.2.2.1 p.2.2.2.2.1 p.2.2.2.2.2.1 p.2.2.2.2.2.2.1 p.2.2.2.2.2.2.2.1 p.2.2.2.2.2.2.2.2.1 p.2.2.2.2.2.2.2.2.2.1 p.2.2.2.2.2.2.2.2.2.2⟩
noncomputable abbrev K142 : Cons := [(143, C143)]
noncomputable abbrev L142 : List (Nat × Loops) := []
abbrev Q142 : List (Nat × List (Int × Nat) × Nat) := []
noncomputable abbrev X142 : Nat → Ctx := ctxOf tb K142 L142 Q142
theorem E142 : ∀ x, funG fs X142 6 142 C142 x = C142.fn x := fun x => by kernel_rfl
theorem B142 : ConG Tryz.prog 142 C142 := ConG.make FS MIX TY (cons := K142) (L := L142) (ptrs := Q142) ⟨S143, trivial⟩ trivial trivial rfl (by kernel_rfl) E142
theorem S142 : ConS Tryz.prog 142 C142 := B142.call (by kernel_rfl)
/-! impl.WorldOk: function 64 -/
noncomputable def f_impl_WorldOk.l1 : Nat → (List (Int × Int × Bool × Int × Int × Int × Bool × List Int)) → Int → Int → Int → Int → (List (Int × (List (Int × List Int × Bool)) × (List (List Int × Int × List Bool × Bool × Int × Bool × Int × (List (Int × Bool)))) × (List (Int × (List (Int × Int × Bool × List Int)))) × List Int)) → (List (Int × Int × Bool × Int × Int × Int × Bool × List Int)) → Option ((Int × Int × (List (Int × (List (Int × List Int × Bool)) × (List (List Int × Int × List Bool × Bool × Int × Bool × Int × (List (Int × Bool)))) × (List (Int × (List (Int × Int × Bool × List Int)))) × List Int)) × (List (Int × Int × Bool × Int × Int × Int × Bool × List Int))) ⊕ (Int × Int × (List (Int × (List (Int × List Int × Bool)) × (List (List Int × Int × List Bool × Bool × Int × Bool × Int × (List (Int × Bool)))) × (List (Int × (List (Int × Int × Bool × List Int)))) × List Int)) × (List (Int × Int × Bool × Int × Int × Int × Bool × List Int))))
  | 0, _, _, _, _, _, _, _ => none
  | n + 1, p580, p581, p582, p583, p584, p585, p586 =>
    bif (decide (p583 < p582)) then
      bif ((decide ((0 : Int) ≤ p583)) && (decide (p583 < (p580.length : Int)))) then
      (f_impl_WorldOk_1 ((p580.getD p583.toNat (0, 0, false, 0, 0, 0, false, [])).1) ((p580.getD p583.toNat (0, 0, false, 0, 0, 0, false, [])).2.1) ((p580.getD p583.toNat (0, 0, false, 0, 0, 0, false, [])).2.2.1) ((p580.getD p583.toNat (0, 0, false, 0, 0, 0, false, [])).2.2.2.1) ((p580.getD p583.toNat (0, 0, false, 0, 0, 0, false, [])).2.2.2.2.1) ((p580.getD p583.toNat (0, 0, false, 0, 0, 0, false, [])).2.2.2.2.2.1) ((p580.getD p583.toNat (0, 0, false, 0, 0, 0, false, [])).2.2.2.2.2.2.1) ((p580.getD p583.toNat (0, 0, false, 0, 0, 0, false, [])).2.2.2.2.2.2.2) p584 p585 p586).bind fun y587 =>
      bif y587 then
        some (.inl (p583, p584, p585, p586))
      else
        f_impl_WorldOk.l1 n p580 p581 p582 (IntKind.wrap .i64 (p583 + (1 : Int))) p584 p585 p586
      else none
    else
      some (.inr (p581, p584, p585, p586))
noncomputable def f_impl_WorldOk.l0 : Nat → Bool → (List (Int × (List (Int × List Int × Bool)) × (List (List Int × Int × List Bool × Bool × Int × Bool × Int × (List (Int × Bool)))) × (List (Int × (List (Int × Int × Bool × List Int)))) × List Int)) → Int → Int → Int → (List (Int × (List (Int × List Int × Bool)) × (List (List Int × Int × List Bool × Bool × Int × Bool × Int × (List (Int × Bool)))) × (List (Int × (List (Int × Int × Bool × List Int)))) × List Int)) → (List (Int × Int × Bool × Int × Int × Int × Bool × List Int)) → Option ((Bool) ⊕ (Bool × Int × (List (Int × (List (Int × List Int × Bool)) × (List (List Int × Int × List Bool × Bool × Int × Bool × Int × (List (Int × Bool)))) × (List (Int × (List (Int × Int × Bool × List Int)))) × List Int)) × (List (Int × Int × Bool × Int × Int × Int × Bool × List Int))))
  | 0, _, _, _, _, _, _, _ => none
  | n + 1, p569, p570, p571, p572, p573, p574, p575 =>
    bif (decide (p572 < p571)) then
      bif ((decide ((0 : Int) ≤ p572)) && (decide (p572 < (p570.length : Int)))) then
      (f_impl_NodeOk ((p570.getD p572.toNat (0, [], [], [], [])).1) ((p570.getD p572.toNat (0, [], [], [], [])).2.1) ((p570.getD p572.toNat (0, [], [], [], [])).2.2.1) ((p570.getD p572.toNat (0, [], [], [], [])).2.2.2.1) ((p570.getD p572.toNat (0, [], [], [], [])).2.2.2.2) p573).bind fun y576 =>
      bif (!y576) then
        some (.inl false)
      else
        bif (!(decide (((p570.getD p572.toNat (0, [], [], [], [])).1) = p572))) then
          some (.inl false)
        else
          f_impl_WorldOk.l0 n p569 p570 p571 (IntKind.wrap .i64 (p572 + (1 : Int))) p573 p574 p575
      else none
    else
      some (.inr (p569, p573, p574, p575))
noncomputable def f_impl_WorldOk (x0 : Int) (x1 : List (Int × (List (Int × List Int × Bool)) × (List (List Int × Int × List Bool × Bool × Int × Bool × Int × (List (Int × Bool)))) × (List (Int × (List (Int × Int × Bool × List Int)))) × List Int)) (x2 : List (Int × Int × Bool × Int × Int × Int × Bool × List Int)) : Option (Bool) :=
  (f_impl_from x0 1 4).bind fun y568 =>
  bif (!y568) then
    some false
  else
    bif (!(decide ((x1.length : Int) = x0))) then
      some false
    else
      bif (decide ((40 : Int) < (x2.length : Int))) then
        some false
      else
        (f_impl_WorldOk.l0 N false x1 (x1.length : Int) 0 x0 x1 x2).bind fun r577 =>
        cs r577 (fun a578 =>
          some a578) (fun b579 =>
          (f_impl_WorldOk.l1 N b579.2.2.2 0 (b579.2.2.2.length : Int) 0 b579.2.1 b579.2.2.1 b579.2.2.2).bind fun r588 =>
          cs r588 (fun a589 =>
            some (!(decide ((0 : Int) ≤ a589.1)))) (fun b590 =>
            some true))
noncomputable def C64 : Con := ⟨[(.B, true, [(.int .i64), (.sl R7), (.sl R8)])], [(false, [.bool])], [(.int .i64), (.sl R7), (.sl R8)], [.bool], fun (p : Int × (List (Int × (List (Int × List Int × Bool)) × (List (List Int × Int × List Bool × Bool × Int × Bool × Int × (List (Int × Bool)))) × (List (Int × (List (Int × Int × Bool × List Int)))) × List Int)) × (List (Int × Int × Bool × Int × Int × Int × Bool × List Int))) => f_impl_WorldOk p.1 p.2.1 p.2.2⟩
noncomputable def f_impl_WorldOk.l0.c : LoopCon := ⟨1000, 6, [1, 2, 24, 25, 26], ⟨[(1, .ptr 1000 0), (2, .bool false), (24, .bor none R7 []), (25, .int .i64 0), (26, .int .i64 0)], [(1000, .box [.int .i64 0, .bor none R7 [], .bor none R8 []])], 1001⟩, [.bool, (.sl R7), (.int .i64), (.int .i64), (.int .i64), (.sl R7), (.sl R8)], [⟨.ret, [2], ⟨[(2, .bool false)], [], 1000⟩, [.bool]⟩, ⟨.exit 0, [1, 2], ⟨[(1, .ptr 1000 0), (2, .bool false)], [(1000, .box [.int .i64 0, .bor none R7 [], .bor none R8 []])], 1001⟩, [.bool, (.int .i64), (.sl R7), (.sl R8)]⟩], fun (p : Bool × (List (Int × (List (Int × List Int × Bool)) × (List (List Int × Int × List Bool × Bool × Int × Bool × Int × (List (Int × Bool)))) × (List (Int × (List (Int × Int × Bool × List Int)))) × List Int)) × Int × Int × Int × (List (Int × (List (Int × List Int × Bool)) × (List (List Int × Int × List Bool × Bool × Int × Bool × Int × (List (Int × Bool)))) × (List (Int × (List (Int × Int × Bool × List Int)))) × List Int)) × (List (Int × Int × Bool × Int × Int × Int × Bool × List Int))) => f_impl_WorldOk.l0 N p.1 p.2.1 p.2.2.1 p.2.2.2.1 p.2.2.2.2.1 p.2.2.2.2.2.1 p.2.2.2.2.2.2⟩
noncomputable def f_impl_WorldOk.l1.c : LoopCon := ⟨1193, 4, [0, 1, 4, 7, 8], ⟨[(0, .bor none R8 []), (1, .func 142 [.ptr 1000 0]), (4, .int .i64 0), (7, .int .i64 0), (8, .int .i64 0)], [(1000, .box [.int .i64 0, .bor none R7 [], .bor none R8 []])], 1193⟩, [(.sl R8), (.int .i64), (.int .i64), (.int .i64), (.int .i64), (.sl R7), (.sl R8)], [⟨.ret, [4], ⟨[(4, .int .i64 0)], [(1000, .box [.int .i64 0, .bor none R7 [], .bor none R8 []])], 1193⟩, [(.int .i64), (.int .i64), (.sl R7), (.sl R8)]⟩, ⟨.exit 0, [4], ⟨[(4, .int .i64 0)], [(1000, .box [.int .i64 0, .bor none R7 [], .bor none R8 []])], 1193⟩, [(.int .i64), (.int .i64), (.sl R7), (.sl R8)]⟩], fun (p : (List (Int × Int × Bool × Int × Int × Int × Bool × List Int)) × Int × Int × Int × Int × (List (Int × (List (Int × List Int × Bool)) × (List (List Int × Int × List Bool × Bool × Int × Bool × Int × (List (Int × Bool)))) × (List (Int × (List (Int × Int × Bool × List Int)))) × List Int)) × (List (Int × Int × Bool × Int × Int × Int × Bool × List Int))) => f_impl_WorldOk.l1 N p.1 p.2.1 p.2.2.1 p.2.2.2.1 p.2.2.2.2.1 p.2.2.2.2.2.1 p.2.2.2.2.2.2⟩
noncomputable abbrev K64 : Cons := [(47, C47), (140, C140), (142, C142)]
noncomputable abbrev L64 : List (Nat × Loops) := [(64, [(4, f_impl_WorldOk.l0.c)]), (193, [(2, f_impl_WorldOk.l1.c)])]
abbrev Q64 : List (Nat × List (Int × Nat) × Nat) := []
noncomputable abbrev X64 : Nat → Ctx := ctxOf tb K64 L64 Q64
theorem f_impl_WorldOk.l0.ok : ∀ n p, (fun (p : Bool × (List (Int × (List (Int × List Int × Bool)) × (List (List Int × Int × List Bool × Bool × Int × Bool × Int × (List (Int × Bool)))) × (List (Int × (List (Int × Int × Bool × List Int)))) × List Int)) × Int × Int × Int × (List (Int × (List (Int × List Int × Bool)) × (List (List Int × Int × List Bool × Bool × Int × Bool × Int × (List (Int × Bool)))) × (List (Int × (List (Int × Int × Bool × List Int)))) × List Int)) × (List (Int × Int × Bool × Int × Int × Int × Bool × List Int))) => f_impl_WorldOk.l0 n p.1 p.2.1 p.2.2.1 p.2.2.2.1 p.2.2.2.2.1 p.2.2.2.2.2.1 p.2.2.2.2.2.2) p = iterD (roundOf fs X64 6 64 4 false f_impl_WorldOk.l0.c) n p :=
  iter_of (l := fun n => fun (p : Bool × (List (Int × (List (Int × List Int × Bool)) × (List (List Int × Int × List Bool × Bool × Int × Bool × Int × (List (Int × Bool)))) × (List (Int × (List (Int × Int × Bool × List Int)))) × List Int)) × Int × Int × Int × (List (Int × (List (Int × List Int × Bool)) × (List (List Int × Int × List Bool × Bool × Int × Bool × Int × (List (Int × Bool)))) × (List (Int × (List (Int × Int × Bool × List Int)))) × List Int)) × (List (Int × Int × Bool × Int × Int × Int × Bool × List Int))) => f_impl_WorldOk.l0 n p.1 p.2.1 p.2.2.1 p.2.2.2.1 p.2.2.2.2.1 p.2.2.2.2.2.1 p.2.2.2.2.2.2) (fun _ => rfl) (fun n p => by kernel_rfl)
theorem f_impl_WorldOk.l1.ok : ∀ n p, (fun (p : (List (Int × Int × Bool × Int × Int × Int × Bool × List Int)) × Int × Int × Int × Int × (List (Int × (List (Int × List Int × Bool)) × (List (List Int × Int × List Bool × Bool × Int × Bool × Int × (List (Int × Bool)))) × (List (Int × (List (Int × Int × Bool × List Int)))) × List Int)) × (List (Int × Int × Bool × Int × Int × Int × Bool × List Int))) => f_impl_WorldOk.l1 n p.1 p.2.1 p.2.2.1 p.2.2.2.1 p.2.2.2.2.1 p.2.2.2.2.2.1 p.2.2.2.2.2.2) p = iterD (roundOf fs X64 4 193 2 true f_impl_WorldOk.l1.c) n p :=
  iter_of (l := fun n => fun (p : (List (Int × Int × Bool × Int × Int × Int × Bool × List Int)) × Int × Int × Int × Int × (List (Int × (List (Int × List Int × Bool)) × (List (List Int × Int × List Bool × Bool × Int × Bool × Int × (List (Int × Bool)))) × (List (Int × (List (Int × Int × Bool × List Int)))) × List Int)) × (List (Int × Int × Bool × Int × Int × Int × Bool × List Int))) => f_impl_WorldOk.l1 n p.1 p.2.1 p.2.2.1 p.2.2.2.1 p.2.2.2.2.1 p.2.2.2.2.2.1 p.2.2.2.2.2.2) (fun _ => rfl) (fun n p => by kernel_rfl)
theorem E64 : ∀ x, funRun fs X64 6 64 C64 x = C64.fn x := fun x => by kernel_rfl
theorem B64 : ConB Tryz.prog 64 C64 := ConB.make FS MIX TY (cons := K64) (L := L64) (ptrs := Q64) ⟨S47, S140, S142, trivial⟩ trivial ⟨⟨⟨N, fun p => f_impl_WorldOk.l0.ok N p⟩, trivial⟩, ⟨⟨N, fun p => f_impl_WorldOk.l1.ok N p⟩, trivial⟩, trivial⟩ rfl rfl E64
theorem S64 : ConS Tryz.prog 64 C64 := B64.call rfl
/-! slices.Clone[[]int,int]: function 146 -/
noncomputable def f_slices_Clone_int_int (x0 : List Int) : Option (List Int) := bif Nat.blt (0 + x0.length) 17592186044416 then some x0 else none
noncomputable def C146 : Con := ⟨[(.B, false, [(.sl R0)])], [(false, [(.sl R0)])], [(.sl R0)], [(.sl R0)], f_slices_Clone_int_int⟩
noncomputable abbrev X146 : Nat → Ctx := ctxOf tb [] [] []
theorem E146 : ∀ x : List R0.den, bodyRun fs X146 6 146 C146 [] [] [.bor (some 1000) R0 x] [] = f_slices_Clone_int_int x := fun x => by kernel_rfl
theorem Z146 : bodyRun fs X146 6 146 C146 [] [] [.nil (some R0)] [] = f_slices_Clone_int_int ([] : List R0.den) := by kernel_rfl
theorem B146 : ConB Tryz.prog 146 C146 := ConB.copy FS MIX TY (cons := []) (L := []) (ptrs := []) trivial trivial trivial rfl E146 Z146
theorem S146 : ConS Tryz.prog 146 C146 := B146.call rfl
/-! impl.copyMsg: function 163 -/
noncomputable def f_impl_copyMsg (x0 : Int) (x1 : Int) (x2 : Bool) (x3 : List Int) : Option (Int × Int × Bool × List Int) :=
  (f_slices_Clone_int_int x3).bind fun y591 =>
  some (x0, x1, x2, y591)
noncomputable def C163 : Con := ⟨[(.B, true, [(.int .i64), (.int .i64), .bool, (.sl R0)])], [(true, [(.int .i64), (.int .i64), .bool, (.sl R0)])], [(.int .i64), (.int .i64), .bool, (.sl R0)], [(.int .i64), (.int .i64), .bool, (.sl R0)], fun (p : Int × Int × Bool × List Int) => f_impl_copyMsg p.1 p.2.1 p.2.2.1 p.2.2.2⟩
noncomputable abbrev K163 : Cons := [(146, C146)]
noncomputable abbrev L163 : List (Nat × Loops) := []
abbrev Q163 : List (Nat × List (Int × Nat) × Nat) := []
noncomputable abbrev X163 : Nat → Ctx := ctxOf tb K163 L163 Q163
theorem E163 : ∀ x, funRun fs X163 6 163 C163 x = C163.fn x := fun x => by kernel_rfl
theorem B163 : ConB Tryz.prog 163 C163 := ConB.make FS MIX TY (cons := K163) (L := L163) (ptrs := Q163) ⟨S146, trivial⟩ trivial trivial rfl rfl E163
theorem S163 : ConS Tryz.prog 163 C163 := B163.call rfl
/-! impl.coming: function 101 -/
noncomputable def f_impl_coming.l0 : Nat → Int → Int → (List (Int × Int × Bool × List Int)) → Int → Int → Int → (List (Int × (List (Int × List Int × Bool)) × (List (List Int × Int × List Bool × Bool × Int × Bool × Int × (List (Int × Bool)))) × (List (Int × (List (Int × Int × Bool × List Int)))) × List Int)) → (List (Int × Int × Bool × Int × Int × Int × Bool × List Int)) → Int → (List (Int × Int × Bool × List Int)) → (List (Int × Int × Bool × List Int)) → Option ((List (Int × Int × Bool × List Int)))
  | 0, _, _, _, _, _, _, _, _, _, _, _ => none
  | n + 1, p592, p593, p594, p595, p596, p597, p598, p599, p600, p601, p602 =>
    bif (decide (p596 < p595)) then
      bif ((decide ((0 : Int) ≤ p596)) && (decide (p596 < (p594.length : Int)))) then
      bif ((decide ((0 : Int) ≤ p593)) && (decide (p593 < (p598.length : Int)))) then
      bif ((decide ((0 : Int) ≤ p592)) && (decide (p592 < (((p598.getD p593.toNat (0, [], [], [], [])).2.2.2.2).length : Int)))) then
      bif (decide ((((p598.getD p593.toNat (0, [], [], [], [])).2.2.2.2).getD p592.toNat 0) ≤ (IntKind.wrap .i64 (p600 + p596)))) then
        (f_impl_copyMsg ((p594.getD p596.toNat (0, 0, false, [])).1) ((p594.getD p596.toNat (0, 0, false, [])).2.1) ((p594.getD p596.toNat (0, 0, false, [])).2.2.1) ((p594.getD p596.toNat (0, 0, false, [])).2.2.2)).bind fun y603 =>
        bif (Nat.blt (p602.length + ([(y603.1, y603.2.1, y603.2.2.1, y603.2.2.2)] : List (Int × Int × Bool × List Int)).length) 2932031007402) then
        (some ((p602 ++ ([(y603.1, y603.2.1, y603.2.2.1, y603.2.2.2)] : List (Int × Int × Bool × List Int))) : List (Int × Int × Bool × List Int))).bind fun z604 =>
        f_impl_coming.l0 n p592 p593 p594 p595 (IntKind.wrap .i64 (p596 + (1 : Int))) p597 p598 p599 p600 p601 z604
        else none
      else
        f_impl_coming.l0 n p592 p593 p594 p595 (IntKind.wrap .i64 (p596 + (1 : Int))) p597 p598 p599 p600 p601 p602
      else none
      else none
      else none
    else
      some p602
noncomputable def f_impl_coming (x0 : Int) (x1 : List (Int × (List (Int × List Int × Bool)) × (List (List Int × Int × List Bool × Bool × Int × Bool × Int × (List (Int × Bool)))) × (List (Int × (List (Int × Int × Bool × List Int)))) × List Int)) (x2 : List (Int × Int × Bool × Int × Int × Int × Bool × List Int)) (x3 : Int) (x4 : Int) : Option ((List (Int × Int × Bool × List Int))) :=
  bif ((decide ((0 : Int) ≤ x3)) && (decide (x3 < (x1.length : Int)))) then
  bif ((decide ((0 : Int) ≤ x4)) && (decide (x4 < (((x1.getD x3.toNat (0, [], [], [], [])).2.2.2.1).length : Int)))) then
  (f_impl_coming.l0 N x3 x4 ((((x1.getD x3.toNat (0, [], [], [], [])).2.2.2.1).getD x4.toNat (0, [])).2) (((((x1.getD x3.toNat (0, [], [], [], [])).2.2.2.1).getD x4.toNat (0, [])).2).length : Int) 0 x0 x1 x2 ((((x1.getD x3.toNat (0, [], [], [], [])).2.2.2.1).getD x4.toNat (0, [])).1) ((((x1.getD x3.toNat (0, [], [], [], [])).2.2.2.1).getD x4.toNat (0, [])).2) ([] : List (Int × Int × Bool × List Int))).bind fun r605 =>
  some r605
  else none
  else none
noncomputable def C101 : Con := ⟨[(.B, true, [(.int .i64), (.sl R7), (.sl R8)]), (.B, false, [(.int .i64)]), (.B, false, [(.int .i64)])], [(false, [(.sl R5)])], [(.int .i64), (.sl R7), (.sl R8), (.int .i64), (.int .i64)], [(.sl R5)], fun (p : Int × (List (Int × (List (Int × List Int × Bool)) × (List (List Int × Int × List Bool × Bool × Int × Bool × Int × (List (Int × Bool)))) × (List (Int × (List (Int × Int × Bool × List Int)))) × List Int)) × (List (Int × Int × Bool × Int × Int × Int × Bool × List Int)) × Int × Int) => f_impl_coming p.1 p.2.1 p.2.2.1 p.2.2.2.1 p.2.2.2.2⟩
noncomputable def f_impl_coming.l0.c : LoopCon := ⟨1000, 6, [1, 2, 3, 6, 7, 8, 22, 23, 24], ⟨[(1, .int .i64 0), (2, .int .i64 0), (3, .ptr 1000 0), (6, .nil (some R5)), (7, .ptr 1001 0), (8, .ref 1002 [] none), (22, .bor none R5 []), (23, .int .i64 0), (24, .int .i64 0)], [(1000, .box [.int .i64 0, .bor none R7 [], .bor none R8 []]), (1001, .box [.int .i64 0, .bor none R5 []]), (1002, .row R5 [])], 1003⟩, [(.int .i64), (.int .i64), (.sl R5), (.int .i64), (.int .i64), (.int .i64), (.sl R7), (.sl R8), (.int .i64), (.sl R5), (.sl R5)], [⟨.exit 0, [6, 8], ⟨[(6, .nil (some R5)), (8, .ref 1000 [] none)], [(1000, .row R5 [])], 1001⟩, [(.sl R5)]⟩], fun (p : Int × Int × (List (Int × Int × Bool × List Int)) × Int × Int × Int × (List (Int × (List (Int × List Int × Bool)) × (List (List Int × Int × List Bool × Bool × Int × Bool × Int × (List (Int × Bool)))) × (List (Int × (List (Int × Int × Bool × List Int)))) × List Int)) × (List (Int × Int × Bool × Int × Int × Int × Bool × List Int)) × Int × (List (Int × Int × Bool × List Int)) × (List (Int × Int × Bool × List Int))) => f_impl_coming.l0 N p.1 p.2.1 p.2.2.1 p.2.2.2.1 p.2.2.2.2.1 p.2.2.2.2.2.1 p.2.2.2.2.2.2.1 p.2.2.2.2.2.2.2.1 p.2.2.2.2.2.2.2.2.1 p.2.2.2.2.2.2.2.2.2.1 p.2.2.2.2.2.2.2.2.2.2⟩
noncomputable abbrev K101 : Cons := [(163, C163)]
noncomputable abbrev L101 : List (Nat × Loops) := [(101, [(4, f_impl_coming.l0.c)])]
abbrev Q101 : List (Nat × List (Int × Nat) × Nat) := []
noncomputable abbrev X101 : Nat → Ctx := ctxOf tb K101 L101 Q101
theorem f_impl_coming.l0.ok : ∀ n p, (fun (p : Int × Int × (List (Int × Int × Bool × List Int)) × Int × Int × Int × (List (Int × (List (Int × List Int × Bool)) × (List (List Int × Int × List Bool × Bool × Int × Bool × Int × (List (Int × Bool)))) × (List (Int × (List (Int × Int × Bool × List Int)))) × List Int)) × (List (Int × Int × Bool × Int × Int × Int × Bool × List Int)) × Int × (List (Int × Int × Bool × List Int)) × (List (Int × Int × Bool × List Int))) => f_impl_coming.l0 n p.1 p.2.1 p.2.2.1 p.2.2.2.1 p.2.2.2.2.1 p.2.2.2.2.2.1 p.2.2.2.2.2.2.1 p.2.2.2.2.2.2.2.1 p.2.2.2.2.2.2.2.2.1 p.2.2.2.2.2.2.2.2.2.1 p.2.2.2.2.2.2.2.2.2.2) p = iterD (roundOf fs X101 6 101 4 false f_impl_coming.l0.c) n p :=
  iter_of (l := fun n => fun (p : Int × Int × (List (Int × Int × Bool × List Int)) × Int × Int × Int × (List (Int × (List (Int × List Int × Bool)) × (List (List Int × Int × List Bool × Bool × Int × Bool × Int × (List (Int × Bool)))) × (List (Int × (List (Int × Int × Bool × List Int)))) × List Int)) × (List (Int × Int × Bool × Int × Int × Int × Bool × List Int)) × Int × (List (Int × Int × Bool × List Int)) × (List (Int × Int × Bool × List Int))) => f_impl_coming.l0 n p.1 p.2.1 p.2.2.1 p.2.2.2.1 p.2.2.2.2.1 p.2.2.2.2.2.1 p.2.2.2.2.2.2.1 p.2.2.2.2.2.2.2.1 p.2.2.2.2.2.2.2.2.1 p.2.2.2.2.2.2.2.2.2.1 p.2.2.2.2.2.2.2.2.2.2) (fun _ => rfl) (fun n p => by kernel_rfl)
theorem E101 : ∀ x, funRun fs X101 6 101 C101 x = C101.fn x := fun x => by kernel_rfl
theorem B101 : ConB Tryz.prog 101 C101 := ConB.make FS MIX TY (cons := K101) (L := L101) (ptrs := Q101) ⟨S163, trivial⟩ trivial ⟨⟨⟨N, fun p => f_impl_coming.l0.ok N p⟩, trivial⟩, trivial⟩ rfl rfl E101
theorem S101 : ConS Tryz.prog 101 C101 := B101.call rfl
/-! slices.Reverse[[]loop.example/g00281/impl.Msg,loop.example/g00281/impl.Msg]: function 147 -/
noncomputable def f_slices_Reverse_impl_Msg_impl_Msg (x0 : List (Int × Int × Bool × List Int)) : Option (List (Int × Int × Bool × List Int)) := bif Nat.ble x0.length 9223372036854775807 then some x0.reverse else none
noncomputable def C147 : Con := ⟨[(.I, false, [(.sl R5)])], [], [(.sl R5)], [(.sl R5)], f_slices_Reverse_impl_Msg_impl_Msg⟩
theorem B147 : ConG Tryz.prog 147 C147 := ConG.reverse (r := R5) Tryz.reverse147 Tryz.isAgg76 Tryz.sizeOf76 (FS 147 Tryz.f147 rfl).enters
theorem S147 : ConS Tryz.prog 147 C147 := B147.call (by kernel_rfl)
/-! impl.truth: function 71 -/
noncomputable def f_impl_truth.l1 : Nat → Int → Int → Int → (List (Int × Int × Bool × List Int)) → Option ((Int × (List (Int × Int × Bool × List Int))) ⊕ (Unit))
  | 0, _, _, _, _ => none
  | n + 1, p633, p634, p635, p636 =>
    bif (decide (p635 < p634)) then
      bif ((decide ((0 : Int) ≤ p635)) && (decide (p635 < (p636.length : Int)))) then
      bif (decide (((p636.getD p635.toNat (0, 0, false, [])).1) = (7 : Int))) then
        bif (decide (((p636.getD p635.toNat (0, 0, false, [])).2.1) = p633)) then
          some (.inl (p635, p636))
        else
          f_impl_truth.l1 n p633 p634 (IntKind.wrap .i64 (p635 + (1 : Int))) p636
      else
        f_impl_truth.l1 n p633 p634 (IntKind.wrap .i64 (p635 + (1 : Int))) p636
      else none
    else
      some (.inr ())
noncomputable def f_impl_truth.l0 : Nat → Int → Int → Int → Int → Int → (List (Int × (List (Int × List Int × Bool)) × (List (List Int × Int × List Bool × Bool × Int × Bool × Int × (List (Int × Bool)))) × (List (Int × (List (Int × Int × Bool × List Int)))) × List Int)) → (List (Int × Int × Bool × Int × Int × Int × Bool × List Int)) → (List Int) → Int → (List Bool) → Bool → Int → Bool → Int → (List (Int × Bool)) → (List (Int × Int × Bool × List Int)) → Option ((Int × (List (Int × Int × Bool × List Int))) ⊕ (Int × Int × Int × (List (Int × (List (Int × List Int × Bool)) × (List (List Int × Int × List Bool × Bool × Int × Bool × Int × (List (Int × Bool)))) × (List (Int × (List (Int × Int × Bool × List Int)))) × List Int)) × (List (Int × Int × Bool × Int × Int × Int × Bool × List Int)) × List Int × Int × List Bool × Bool × Int × Bool × Int × (List (Int × Bool))))
  | 0, _, _, _, _, _, _, _, _, _, _, _, _, _, _, _, _ => none
  | n + 1, p611, p612, p613, p614, p615, p616, p617, p618, p619, p620, p621, p622, p623, p624, p625, p626 =>
    bif (decide (p614 < p613)) then
      bif ((decide ((0 : Int) ≤ p614)) && (decide (p614 < (p626.length : Int)))) then
      bif (decide (((p626.getD p614.toNat (0, 0, false, [])).1) = (3 : Int))) then
        bif (p626.getD p614.toNat (0, 0, false, [])).2.2.1 then
          bif (decide (((p626.getD p614.toNat (0, 0, false, [])).2.1) = p611)) then
            some (.inl (p614, p626))
          else
            f_impl_truth.l0 n p611 p612 p613 (IntKind.wrap .i64 (p614 + (1 : Int))) p615 p616 p617 p618 p619 p620 p621 p622 p623 p624 p625 p626
        else
          f_impl_truth.l0 n p611 p612 p613 (IntKind.wrap .i64 (p614 + (1 : Int))) p615 p616 p617 p618 p619 p620 p621 p622 p623 p624 p625 p626
      else
        f_impl_truth.l0 n p611 p612 p613 (IntKind.wrap .i64 (p614 + (1 : Int))) p615 p616 p617 p618 p619 p620 p621 p622 p623 p624 p625 p626
      else none
    else
      some (.inr (p611, p612, p615, p616, p617, p618, p619, p620, p621, p622, p623, p624, p625))
noncomputable def f_impl_truth (x0 : Int) (x1 : List (Int × (List (Int × List Int × Bool)) × (List (List Int × Int × List Bool × Bool × Int × Bool × Int × (List (Int × Bool)))) × (List (Int × (List (Int × Int × Bool × List Int)))) × List Int)) (x2 : List (Int × Int × Bool × Int × Int × Int × Bool × List Int)) (x3 : Int) : Option (List Int) :=
  bif (decide (x0 = (0 : Int))) then none else
  bif ((decide ((0 : Int) ≤ (Int.tmod x3 x0))) && (decide ((Int.tmod x3 x0) < (x1.length : Int)))) then
  bif ((decide ((0 : Int) ≤ x3)) && (decide (x3 < (((x1.getD (Int.tmod x3 x0).toNat (0, [], [], [], [])).2.2.1).length : Int)))) then
  bif (decide (((((x1.getD (Int.tmod x3 x0).toNat (0, [], [], [], [])).2.2.1).getD x3.toNat ([], 0, [], false, 0, false, 0, [])).2.1) < (0 : Int))) then
    (f_slices_Clone_int_int ((((x1.getD (Int.tmod x3 x0).toNat (0, [], [], [], [])).2.2.1).getD x3.toNat ([], 0, [], false, 0, false, 0, [])).1)).bind fun y606 =>
    some y606
  else
    bif ((decide ((0 : Int) ≤ ((((x1.getD (Int.tmod x3 x0).toNat (0, [], [], [], [])).2.2.1).getD x3.toNat ([], 0, [], false, 0, false, 0, [])).2.1))) && (decide (((((x1.getD (Int.tmod x3 x0).toNat (0, [], [], [], [])).2.2.1).getD x3.toNat ([], 0, [], false, 0, false, 0, [])).2.1) < (x1.length : Int)))) then
    bif ((decide ((0 : Int) ≤ x3)) && (decide (x3 < (((x1.getD ((((x1.getD (Int.tmod x3 x0).toNat (0, [], [], [], [])).2.2.1).getD x3.toNat ([], 0, [], false, 0, false, 0, [])).2.1).toNat (0, [], [], [], [])).2.1).length : Int)))) then
    bif (decide (((((x1.getD ((((x1.getD (Int.tmod x3 x0).toNat (0, [], [], [], [])).2.2.1).getD x3.toNat ([], 0, [], false, 0, false, 0, [])).2.1).toNat (0, [], [], [], [])).2.1).getD x3.toNat (0, [], false)).1) = (2 : Int))) then
      (f_slices_Clone_int_int ((((x1.getD ((((x1.getD (Int.tmod x3 x0).toNat (0, [], [], [], [])).2.2.1).getD x3.toNat ([], 0, [], false, 0, false, 0, [])).2.1).toNat (0, [], [], [], [])).2.1).getD x3.toNat (0, [], false)).2.1)).bind fun y607 =>
      some y607
    else
      (f_impl_coming x0 x1 x2 (Int.tmod x3 x0) ((((x1.getD (Int.tmod x3 x0).toNat (0, [], [], [], [])).2.2.1).getD x3.toNat ([], 0, [], false, 0, false, 0, [])).2.1)).bind fun y608 =>
      (f_slices_Reverse_impl_Msg_impl_Msg y608).bind fun y609 =>
      (some (y609 : List (Int × Int × Bool × List Int))).bind fun z610 =>
      (f_impl_truth.l0 N x3 (Int.tmod x3 x0) (z610.length : Int) 0 x0 x1 x2 ((((x1.getD (Int.tmod x3 x0).toNat (0, [], [], [], [])).2.2.1).getD x3.toNat ([], 0, [], false, 0, false, 0, [])).1) ((((x1.getD (Int.tmod x3 x0).toNat (0, [], [], [], [])).2.2.1).getD x3.toNat ([], 0, [], false, 0, false, 0, [])).2.1) ((((x1.getD (Int.tmod x3 x0).toNat (0, [], [], [], [])).2.2.1).getD x3.toNat ([], 0, [], false, 0, false, 0, [])).2.2.1) ((((x1.getD (Int.tmod x3 x0).toNat (0, [], [], [], [])).2.2.1).getD x3.toNat ([], 0, [], false, 0, false, 0, [])).2.2.2.1) ((((x1.getD (Int.tmod x3 x0).toNat (0, [], [], [], [])).2.2.1).getD x3.toNat ([], 0, [], false, 0, false, 0, [])).2.2.2.2.1) ((((x1.getD (Int.tmod x3 x0).toNat (0, [], [], [], [])).2.2.1).getD x3.toNat ([], 0, [], false, 0, false, 0, [])).2.2.2.2.2.1) ((((x1.getD (Int.tmod x3 x0).toNat (0, [], [], [], [])).2.2.1).getD x3.toNat ([], 0, [], false, 0, false, 0, [])).2.2.2.2.2.2.1) ((((x1.getD (Int.tmod x3 x0).toNat (0, [], [], [], [])).2.2.1).getD x3.toNat ([], 0, [], false, 0, false, 0, [])).2.2.2.2.2.2.2) z610).bind fun r627 =>
      cs r627 (fun a628 =>
        some ((a628.2.getD a628.1.toNat (0, 0, false, [])).2.2.2)) (fun b629 =>
        (f_impl_coming b629.2.2.1 b629.2.2.2.1 b629.2.2.2.2.1 b629.2.2.2.2.2.2.1 b629.2.1).bind fun y630 =>
        (f_slices_Reverse_impl_Msg_impl_Msg y630).bind fun y631 =>
        (some (y631 : List (Int × Int × Bool × List Int))).bind fun z632 =>
        (f_impl_truth.l1 N b629.1 (z632.length : Int) 0 z632).bind fun r637 =>
        cs r637 (fun a638 =>
          some ((a638.2.getD a638.1.toNat (0, 0, false, [])).2.2.2)) (fun b639 =>
          some []))
    else none
    else none
  else none
  else none
noncomputable def C71 : Con := ⟨[(.B, true, [(.int .i64), (.sl R7), (.sl R8)]), (.B, false, [(.int .i64)])], [(false, [(.sl R0)])], [(.int .i64), (.sl R7), (.sl R8), (.int .i64)], [(.sl R0)], fun (p : Int × (List (Int × (List (Int × List Int × Bool)) × (List (List Int × Int × List Bool × Bool × Int × Bool × Int × (List (Int × Bool)))) × (List (Int × (List (Int × Int × Bool × List Int)))) × List Int)) × (List (Int × Int × Bool × Int × Int × Int × Bool × List Int)) × Int) => f_impl_truth p.1 p.2.1 p.2.2.1 p.2.2.2⟩
noncomputable def f_impl_truth.l0.c : LoopCon := ⟨1000, 6, [1, 2, 4, 5, 6, 56, 57, 58], ⟨[(1, .int .i64 0), (2, .ptr 1000 0), (4, .nil (some R0)), (5, .int .i64 0), (6, .ptr 1001 0), (56, .ref 1002 [] none), (57, .int .i64 0), (58, .int .i64 0)], [(1000, .box [.int .i64 0, .bor none R7 [], .bor none R8 []]), (1001, .box [.bor none R0 [], .int .i64 0, .bor none R2 [], .bool false, .int .i64 0, .bool false, .int .i64 0, .bor none R3 []]), (1002, .row R5 [])], 1003⟩, [(.int .i64), (.int .i64), (.int .i64), (.int .i64), (.int .i64), (.sl R7), (.sl R8), (.sl R0), (.int .i64), (.sl R2), .bool, (.int .i64), .bool, (.int .i64), (.sl R3), (.sl R5)], [⟨.ret, [4], ⟨[(4, .ref 1000 [(0, 3)] none)], [(1000, .row R5 [])], 1001⟩, [(.int .i64), (.sl R5)]⟩, ⟨.exit 0, [1, 2, 4, 5, 6], ⟨[(1, .int .i64 0), (2, .ptr 1000 0), (4, .nil (some R0)), (5, .int .i64 0), (6, .ptr 1001 0)], [(1000, .box [.int .i64 0, .bor none R7 [], .bor none R8 []]), (1001, .box [.bor none R0 [], .int .i64 0, .bor none R2 [], .bool false, .int .i64 0, .bool false, .int .i64 0, .bor none R3 []])], 1002⟩, [(.int .i64), (.int .i64), (.int .i64), (.sl R7), (.sl R8), (.sl R0), (.int .i64), (.sl R2), .bool, (.int .i64), .bool, (.int .i64), (.sl R3)]⟩], fun (p : Int × Int × Int × Int × Int × (List (Int × (List (Int × List Int × Bool)) × (List (List Int × Int × List Bool × Bool × Int × Bool × Int × (List (Int × Bool)))) × (List (Int × (List (Int × Int × Bool × List Int)))) × List Int)) × (List (Int × Int × Bool × Int × Int × Int × Bool × List Int)) × List Int × Int × List Bool × Bool × Int × Bool × Int × (List (Int × Bool)) × (List (Int × Int × Bool × List Int))) => f_impl_truth.l0 N p.1 p.2.1 p.2.2.1 p.2.2.2.1 p.2.2.2.2.1 p.2.2.2.2.2.1 p.2.2.2.2.2.2.1 p.2.2.2.2.2.2.2.1 p.2.2.2.2.2.2.2.2.1 p.2.2.2.2.2.2.2.2.2.1 p.2.2.2.2.2.2.2.2.2.2.1 p.2.2.2.2.2.2.2.2.2.2.2.1 p.2.2.2.2.2.2.2.2.2.2.2.2.1 p.2.2.2.2.2.2.2.2.2.2.2.2.2.1 p.2.2.2.2.2.2.2.2.2.2.2.2.2.2.1 p.2.2.2.2.2.2.2.2.2.2.2.2.2.2.2⟩
noncomputable def f_impl_truth.l1.c : LoopCon := ⟨1000, 6, [1, 4, 85, 86, 87], ⟨[(1, .int .i64 0), (4, .nil (some R0)), (85, .ref 1000 [] none), (86, .int .i64 0), (87, .int .i64 0)], [(1000, .row R5 [])], 1001⟩, [(.int .i64), (.int .i64), (.int .i64), (.sl R5)], [⟨.ret, [4], ⟨[(4, .ref 1000 [(0, 3)] none)], [(1000, .row R5 [])], 1001⟩, [(.int .i64), (.sl R5)]⟩, ⟨.exit 2, [4], ⟨[(4, .nil (some R0))], [], 1000⟩, []⟩], fun (p : Int × Int × Int × (List (Int × Int × Bool × List Int))) => f_impl_truth.l1 N p.1 p.2.1 p.2.2.1 p.2.2.2⟩
noncomputable abbrev K71 : Cons := [(101, C101), (146, C146), (147, C147)]
noncomputable abbrev L71 : List (Nat × Loops) := [(71, [(11, f_impl_truth.l0.c), (19, f_impl_truth.l1.c)])]
abbrev Q71 : List (Nat × List (Int × Nat) × Nat) := []
noncomputable abbrev X71 : Nat → Ctx := ctxOf tb K71 L71 Q71
theorem f_impl_truth.l0.ok : ∀ n p, (fun (p : Int × Int × Int × Int × Int × (List (Int × (List (Int × List Int × Bool)) × (List (List Int × Int × List Bool × Bool × Int × Bool × Int × (List (Int × Bool)))) × (List (Int × (List (Int × Int × Bool × List Int)))) × List Int)) × (List (Int × Int × Bool × Int × Int × Int × Bool × List Int)) × List Int × Int × List Bool × Bool × Int × Bool × Int × (List (Int × Bool)) × (List (Int × Int × Bool × List Int))) => f_impl_truth.l0 n p.1 p.2.1 p.2.2.1 p.2.2.2.1 p.2.2.2.2.1 p.2.2.2.2.2.1 p.2.2.2.2.2.2.1 p.2.2.2.2.2.2.2.1 p.2.2.2.2.2.2.2.2.1 p.2.2.2.2.2.2.2.2.2.1 p.2.2.2.2.2.2.2.2.2.2.1 p.2.2.2.2.2.2.2.2.2.2.2.1 p.2.2.2.2.2.2.2.2.2.2.2.2.1 p.2.2.2.2.2.2.2.2.2.2.2.2.2.1 p.2.2.2.2.2.2.2.2.2.2.2.2.2.2.1 p.2.2.2.2.2.2.2.2.2.2.2.2.2.2.2) p = iterD (roundOf fs X71 6 71 11 false f_impl_truth.l0.c) n p :=
  iter_of (l := fun n => fun (p : Int × Int × Int × Int × Int × (List (Int × (List (Int × List Int × Bool)) × (List (List Int × Int × List Bool × Bool × Int × Bool × Int × (List (Int × Bool)))) × (List (Int × (List (Int × Int × Bool × List Int)))) × List Int)) × (List (Int × Int × Bool × Int × Int × Int × Bool × List Int)) × List Int × Int × List Bool × Bool × Int × Bool × Int × (List (Int × Bool)) × (List (Int × Int × Bool × List Int))) => f_impl_truth.l0 n p.1 p.2.1 p.2.2.1 p.2.2.2.1 p.2.2.2.2.1 p.2.2.2.2.2.1 p.2.2.2.2.2.2.1 p.2.2.2.2.2.2.2.1 p.2.2.2.2.2.2.2.2.1 p.2.2.2.2.2.2.2.2.2.1 p.2.2.2.2.2.2.2.2.2.2.1 p.2.2.2.2.2.2.2.2.2.2.2.1 p.2.2.2.2.2.2.2.2.2.2.2.2.1 p.2.2.2.2.2.2.2.2.2.2.2.2.2.1 p.2.2.2.2.2.2.2.2.2.2.2.2.2.2.1 p.2.2.2.2.2.2.2.2.2.2.2.2.2.2.2) (fun _ => rfl) (fun n p => by kernel_rfl)
theorem f_impl_truth.l1.ok : ∀ n p, (fun (p : Int × Int × Int × (List (Int × Int × Bool × List Int))) => f_impl_truth.l1 n p.1 p.2.1 p.2.2.1 p.2.2.2) p = iterD (roundOf fs X71 6 71 19 false f_impl_truth.l1.c) n p :=
  iter_of (l := fun n => fun (p : Int × Int × Int × (List (Int × Int × Bool × List Int))) => f_impl_truth.l1 n p.1 p.2.1 p.2.2.1 p.2.2.2) (fun _ => rfl) (fun n p => by kernel_rfl)
theorem E71 : ∀ x, funRun fs X71 6 71 C71 x = C71.fn x := fun x => by kernel_rfl
theorem B71 : ConB Tryz.prog 71 C71 := ConB.make FS MIX TY (cons := K71) (L := L71) (ptrs := Q71) ⟨S101, S146, S147, trivial⟩ trivial ⟨⟨⟨N, fun p => f_impl_truth.l0.ok N p⟩, ⟨N, fun p => f_impl_truth.l1.ok N p⟩, trivial⟩, trivial⟩ rfl rfl E71
theorem S71 : ConS Tryz.prog 71 C71 := B71.call rfl
/-! impl.alone: function 66 -/
noncomputable def f_impl_alone.l0 : Nat → Int → Bool → Int → Int → (List (Int × (List (Int × List Int × Bool)) × (List (List Int × Int × List Bool × Bool × Int × Bool × Int × (List (Int × Bool)))) × (List (Int × (List (Int × Int × Bool × List Int)))) × List Int)) → Int → Int → Option (Bool × Int × Int)
  | 0, _, _, _, _, _, _, _ => none
  | n + 1, p640, p641, p642, p643, p644, p645, p646 =>
    bif (decide (p646 < p645)) then
      bif ((decide ((0 : Int) ≤ p646)) && (decide (p646 < (p644.length : Int)))) then
      bif ((decide ((0 : Int) ≤ p640)) && (decide (p640 < (((p644.getD p646.toNat (0, [], [], [], [])).2.1).length : Int)))) then
      bif (decide (((((p644.getD p646.toNat (0, [], [], [], [])).2.1).getD p640.toNat (0, [], false)).1) = (2 : Int))) then
        f_impl_alone.l0 n p640 p641 (IntKind.wrap .i64 (p642 + (1 : Int))) (IntKind.wrap .i64 (p643 + (1 : Int))) p644 p645 (IntKind.wrap .i64 (p646 + (1 : Int)))
      else
        bif (decide (((((p644.getD p646.toNat (0, [], [], [], [])).2.1).getD p640.toNat (0, [], false)).1) = (1 : Int))) then
          f_impl_alone.l0 n p640 p641 (IntKind.wrap .i64 (p642 + (1 : Int))) p643 p644 p645 (IntKind.wrap .i64 (p646 + (1 : Int)))
        else
          f_impl_alone.l0 n p640 p641 p642 p643 p644 p645 (IntKind.wrap .i64 (p646 + (1 : Int)))
      else none
      else none
    else
      some (p641, p642, p643)
noncomputable def f_impl_alone (x0 : Int) (x1 : List (Int × (List (Int × List Int × Bool)) × (List (List Int × Int × List Bool × Bool × Int × Bool × Int × (List (Int × Bool)))) × (List (Int × (List (Int × Int × Bool × List Int)))) × List Int)) (x2 : List (Int × Int × Bool × Int × Int × Int × Bool × List Int)) (x3 : Int) : Option (Bool) :=
  (f_impl_alone.l0 N x3 false 0 0 x1 (x1.length : Int) 0).bind fun r647 =>
  bif (decide (r647.2.2 = (0 : Int))) then
    some true
  else
    some (decide (r647.2.1 = (1 : Int)))
noncomputable def C66 : Con := ⟨[(.B, true, [(.int .i64), (.sl R7), (.sl R8)]), (.B, false, [(.int .i64)])], [(false, [.bool])], [(.int .i64), (.sl R7), (.sl R8), (.int .i64)], [.bool], fun (p : Int × (List (Int × (List (Int × List Int × Bool)) × (List (List Int × Int × List Bool × Bool × Int × Bool × Int × (List (Int × Bool)))) × (List (Int × (List (Int × Int × Bool × List Int)))) × List Int)) × (List (Int × Int × Bool × Int × Int × Int × Bool × List Int)) × Int) => f_impl_alone p.1 p.2.1 p.2.2.1 p.2.2.2⟩
noncomputable def f_impl_alone.l0.c : LoopCon := ⟨1000, 6, [1, 4, 5, 6, 10, 11, 12], ⟨[(1, .int .i64 0), (4, .bool false), (5, .int .i64 0), (6, .int .i64 0), (10, .bor none R7 []), (11, .int .i64 0), (12, .int .i64 0)], [], 1000⟩, [(.int .i64), .bool, (.int .i64), (.int .i64), (.sl R7), (.int .i64), (.int .i64)], [⟨.exit 0, [4, 5, 6], ⟨[(4, .bool false), (5, .int .i64 0), (6, .int .i64 0)], [], 1000⟩, [.bool, (.int .i64), (.int .i64)]⟩], fun (p : Int × Bool × Int × Int × (List (Int × (List (Int × List Int × Bool)) × (List (List Int × Int × List Bool × Bool × Int × Bool × Int × (List (Int × Bool)))) × (List (Int × (List (Int × Int × Bool × List Int)))) × List Int)) × Int × Int) => f_impl_alone.l0 N p.1 p.2.1 p.2.2.1 p.2.2.2.1 p.2.2.2.2.1 p.2.2.2.2.2.1 p.2.2.2.2.2.2⟩
noncomputable abbrev K66 : Cons := []
noncomputable abbrev L66 : List (Nat × Loops) := [(66, [(3, f_impl_alone.l0.c)])]
abbrev Q66 : List (Nat × List (Int × Nat) × Nat) := []
noncomputable abbrev X66 : Nat → Ctx := ctxOf tb K66 L66 Q66
theorem f_impl_alone.l0.ok : ∀ n p, (fun (p : Int × Bool × Int × Int × (List (Int × (List (Int × List Int × Bool)) × (List (List Int × Int × List Bool × Bool × Int × Bool × Int × (List (Int × Bool)))) × (List (Int × (List (Int × Int × Bool × List Int)))) × List Int)) × Int × Int) => f_impl_alone.l0 n p.1 p.2.1 p.2.2.1 p.2.2.2.1 p.2.2.2.2.1 p.2.2.2.2.2.1 p.2.2.2.2.2.2) p = iterD (roundOf fs X66 6 66 3 false f_impl_alone.l0.c) n p :=
  iter_of (l := fun n => fun (p : Int × Bool × Int × Int × (List (Int × (List (Int × List Int × Bool)) × (List (List Int × Int × List Bool × Bool × Int × Bool × Int × (List (Int × Bool)))) × (List (Int × (List (Int × Int × Bool × List Int)))) × List Int)) × Int × Int) => f_impl_alone.l0 n p.1 p.2.1 p.2.2.1 p.2.2.2.1 p.2.2.2.2.1 p.2.2.2.2.2.1 p.2.2.2.2.2.2) (fun _ => rfl) (fun n p => by kernel_rfl)
theorem E66 : ∀ x, funRun fs X66 6 66 C66 x = C66.fn x := fun x => by kernel_rfl
theorem B66 : ConB Tryz.prog 66 C66 := ConB.make FS MIX TY (cons := K66) (L := L66) (ptrs := Q66) trivial trivial ⟨⟨⟨N, fun p => f_impl_alone.l0.ok N p⟩, trivial⟩, trivial⟩ rfl rfl E66
theorem S66 : ConS Tryz.prog 66 C66 := B66.call rfl
/-! slices.Equal[[]int,int]: function 72 -/
noncomputable def f_slices_Equal_int_int.l0 : Nat → (List Int) → (List Int) → Bool → Int → Int → Option ((Bool) ⊕ (Bool))
  | 0, _, _, _, _, _ => none
  | n + 1, p648, p649, p650, p651, p652 =>
    bif (decide (p652 < p651)) then
      bif ((decide ((0 : Int) ≤ p652)) && (decide (p652 < (p648.length : Int)))) then
      bif ((decide ((0 : Int) ≤ p652)) && (decide (p652 < (p649.length : Int)))) then
      bif (!(decide ((p648.getD p652.toNat 0) = (p649.getD p652.toNat 0)))) then
        some (.inl false)
      else
        f_slices_Equal_int_int.l0 n p648 p649 p650 p651 (IntKind.wrap .i64 (p652 + (1 : Int)))
      else none
      else none
    else
      some (.inr p650)
noncomputable def f_slices_Equal_int_int (x0 : List Int) (x1 : List Int) : Option (Bool) :=
  bif (!(decide ((x0.length : Int) = (x1.length : Int)))) then
    some false
  else
    (f_slices_Equal_int_int.l0 N x0 x1 false (x0.length : Int) 0).bind fun r653 =>
    cs r653 (fun a654 =>
      some a654) (fun b655 =>
      some true)
noncomputable def C72 : Con := ⟨[(.B, false, [(.sl R0)]), (.B, false, [(.sl R0)])], [(false, [.bool])], [(.sl R0), (.sl R0)], [.bool], fun (p : List Int × List Int) => f_slices_Equal_int_int p.1 p.2⟩
noncomputable def f_slices_Equal_int_int.l0.c : LoopCon := ⟨1000, 6, [0, 1, 4, 12, 13], ⟨[(0, .bor none R0 []), (1, .bor none R0 []), (4, .bool false), (12, .int .i64 0), (13, .int .i64 0)], [], 1000⟩, [(.sl R0), (.sl R0), .bool, (.int .i64), (.int .i64)], [⟨.ret, [4], ⟨[(4, .bool false)], [], 1000⟩, [.bool]⟩, ⟨.exit 0, [4], ⟨[(4, .bool false)], [], 1000⟩, [.bool]⟩], fun (p : List Int × List Int × Bool × Int × Int) => f_slices_Equal_int_int.l0 N p.1 p.2.1 p.2.2.1 p.2.2.2.1 p.2.2.2.2⟩
noncomputable abbrev K72 : Cons := []
noncomputable abbrev L72 : List (Nat × Loops) := [(72, [(4, f_slices_Equal_int_int.l0.c)])]
abbrev Q72 : List (Nat × List (Int × Nat) × Nat) := []
noncomputable abbrev X72 : Nat → Ctx := ctxOf tb K72 L72 Q72
theorem f_slices_Equal_int_int.l0.ok : ∀ n p, (fun (p : List Int × List Int × Bool × Int × Int) => f_slices_Equal_int_int.l0 n p.1 p.2.1 p.2.2.1 p.2.2.2.1 p.2.2.2.2) p = iterD (roundOf fs X72 6 72 4 false f_slices_Equal_int_int.l0.c) n p :=
  iter_of (l := fun n => fun (p : List Int × List Int × Bool × Int × Int) => f_slices_Equal_int_int.l0 n p.1 p.2.1 p.2.2.1 p.2.2.2.1 p.2.2.2.2) (fun _ => rfl) (fun n p => by kernel_rfl)
theorem E72 : ∀ x, funRun fs X72 6 72 C72 x = C72.fn x := fun x => by kernel_rfl
theorem B72 : ConB Tryz.prog 72 C72 := ConB.make FS MIX TY (cons := K72) (L := L72) (ptrs := Q72) trivial trivial ⟨⟨⟨N, fun p => f_slices_Equal_int_int.l0.ok N p⟩, trivial⟩, trivial⟩ rfl rfl E72
theorem S72 : ConS Tryz.prog 72 C72 := B72.call rfl
/-! impl.Sane: function 17 -/
noncomputable def f_impl_Sane.l3 : Nat → Bool → Int → (List (Int × (List (Int × List Int × Bool)) × (List (List Int × Int × List Bool × Bool × Int × Bool × Int × (List (Int × Bool)))) × (List (Int × (List (Int × Int × Bool × List Int)))) × List Int)) → Int → Int → Bool → Int → Int → (List (Int × List Int × Bool)) → (List (List Int × Int × List Bool × Bool × Int × Bool × Int × (List (Int × Bool)))) → (List (Int × (List (Int × Int × Bool × List Int)))) → (List Int) → (List (Int × (List (Int × List Int × Bool)) × (List (List Int × Int × List Bool × Bool × Int × Bool × Int × (List (Int × Bool)))) × (List (Int × (List (Int × Int × Bool × List Int)))) × List Int)) → Int → Int → Int → (List (Int × (List (Int × List Int × Bool)) × (List (List Int × Int × List Bool × Bool × Int × Bool × Int × (List (Int × Bool)))) × (List (Int × (List (Int × Int × Bool × List Int)))) × List Int)) → (List (Int × Int × Bool × Int × Int × Int × Bool × List Int)) → Int → (List (Int × List Int × Bool)) → (List (List Int × Int × List Bool × Bool × Int × Bool × Int × (List (Int × Bool)))) → (List (Int × (List (Int × Int × Bool × List Int)))) → (List Int) → Option ((Bool) ⊕ (Bool × Int × (List (Int × (List (Int × List Int × Bool)) × (List (List Int × Int × List Bool × Bool × Int × Bool × Int × (List (Int × Bool)))) × (List (Int × (List (Int × Int × Bool × List Int)))) × List Int)) × Int × Int × Bool × Int × Int × (List (Int × List Int × Bool)) × (List (List Int × Int × List Bool × Bool × Int × Bool × Int × (List (Int × Bool)))) × (List (Int × (List (Int × Int × Bool × List Int)))) × List Int × (List (Int × (List (Int × List Int × Bool)) × (List (List Int × Int × List Bool × Bool × Int × Bool × Int × (List (Int × Bool)))) × (List (Int × (List (Int × Int × Bool × List Int)))) × List Int)) × Int × Int × Bool × Int × (List (Int × (List (Int × List Int × Bool)) × (List (List Int × Int × List Bool × Bool × Int × Bool × Int × (List (Int × Bool)))) × (List (Int × (List (Int × Int × Bool × List Int)))) × List Int)) × (List (Int × Int × Bool × Int × Int × Int × Bool × List Int)) × Int × (List (Int × List Int × Bool)) × (List (List Int × Int × List Bool × Bool × Int × Bool × Int × (List (Int × Bool)))) × (List (Int × (List (Int × Int × Bool × List Int)))) × List Int))
  | 0, _, _, _, _, _, _, _, _, _, _, _, _, _, _, _, _, _, _, _, _, _, _, _ => none
  | n + 1, p704, p705, p706, p707, p708, p709, p710, p711, p712, p713, p714, p715, p716, p717, p718, p719, p720, p721, p722, p723, p724, p725, p726 =>
    bif (decide (p718 < p717)) then
      bif ((decide ((0 : Int) ≤ p718)) && (decide (p718 < (p716.length : Int)))) then
      bif ((decide ((0 : Int) ≤ p718)) && (decide (p718 < (p726.length : Int)))) then
      bif ((decide ((0 : Int) ≤ p705)) && (decide (p705 < (((p716.getD p718.toNat (0, [], [], [], [])).2.2.2.1).length : Int)))) then
      bif ((decide ((0 : Int) ≤ p705)) && (decide (p705 < (((p716.getD p718.toNat (0, [], [], [], [])).2.2.2.1).length : Int)))) then
      bif (decide ((IntKind.wrap .i64 (((((p716.getD p718.toNat (0, [], [], [], [])).2.2.2.1).getD p705.toNat (0, [])).1) + (((((p716.getD p718.toNat (0, [], [], [], [])).2.2.2.1).getD p705.toNat (0, [])).2).length : Int))) < (p726.getD p718.toNat 0))) then
        some (.inl false)
      else
        f_impl_Sane.l3 n p704 p705 p706 p707 p708 p709 p710 p711 p712 p713 p714 p715 p716 p717 (IntKind.wrap .i64 (p718 + (1 : Int))) p719 p720 p721 p722 p723 p724 p725 p726
      else none
      else none
      else none
      else none
    else
      some (.inr (p704, p705, p706, p707, p708, p709, p710, p711, p712, p713, p714, p715, p716, p717, p718, false, p719, p720, p721, p722, p723, p724, p725, p726))
noncomputable def f_impl_Sane.l2 : Nat → Bool → (List (Int × (List (Int × List Int × Bool)) × (List (List Int × Int × List Bool × Bool × Int × Bool × Int × (List (Int × Bool)))) × (List (Int × (List (Int × Int × Bool × List Int)))) × List Int)) → Int → Int → Int → (List (Int × (List (Int × List Int × Bool)) × (List (List Int × Int × List Bool × Bool × Int × Bool × Int × (List (Int × Bool)))) × (List (Int × (List (Int × Int × Bool × List Int)))) × List Int)) → (List (Int × Int × Bool × Int × Int × Int × Bool × List Int)) → Option ((Bool) ⊕ (Bool))
  | 0, _, _, _, _, _, _, _ => none
  | n + 1, p697, p698, p699, p700, p701, p702, p703 =>
    bif (decide (p700 < p699)) then
      bif ((decide ((0 : Int) ≤ p700)) && (decide (p700 < (p698.length : Int)))) then
      (f_impl_Sane.l3 N p697 p700 p698 p699 p700 true p700 ((p698.getD p700.toNat (0, [], [], [], [])).1) ((p698.getD p700.toNat (0, [], [], [], [])).2.1) ((p698.getD p700.toNat (0, [], [], [], [])).2.2.1) ((p698.getD p700.toNat (0, [], [], [], [])).2.2.2.1) ((p698.getD p700.toNat (0, [], [], [], [])).2.2.2.2) p702 (p702.length : Int) 0 p701 p702 p703 ((p698.getD p700.toNat (0, [], [], [], [])).1) ((p698.getD p700.toNat (0, [], [], [], [])).2.1) ((p698.getD p700.toNat (0, [], [], [], [])).2.2.1) ((p698.getD p700.toNat (0, [], [], [], [])).2.2.2.1) ((p698.getD p700.toNat (0, [], [], [], [])).2.2.2.2)).bind fun r727 =>
      cs r727 (fun a728 =>
        some (.inl a728)) (fun b729 =>
        f_impl_Sane.l2 n b729.1 b729.2.2.1 b729.2.2.2.1 (IntKind.wrap .i64 (b729.2.2.2.2.1 + (1 : Int))) b729.2.2.2.2.2.2.2.2.2.2.2.2.2.2.2.2.1 b729.2.2.2.2.2.2.2.2.2.2.2.2.2.2.2.2.2.1 b729.2.2.2.2.2.2.2.2.2.2.2.2.2.2.2.2.2.2.1)
      else none
    else
      some (.inr p697)
noncomputable def f_impl_Sane.l1 : Nat → Bool → Int → Int → Bool → Int → Int → (List (Int × (List (Int × List Int × Bool)) × (List (List Int × Int × List Bool × Bool × Int × Bool × Int × (List (Int × Bool)))) × (List (Int × (List (Int × Int × Bool × List Int)))) × List Int)) → (List (Int × Int × Bool × Int × Int × Int × Bool × List Int)) → Int → Int → (List (Int × (List (Int × List Int × Bool)) × (List (List Int × Int × List Bool × Bool × Int × Bool × Int × (List (Int × Bool)))) × (List (Int × (List (Int × Int × Bool × List Int)))) × List Int)) → (List (Int × Int × Bool × Int × Int × Int × Bool × List Int)) → Int → Bool → Bool → Bool → Int → Bool → Bool → (List (Int × (List (Int × List Int × Bool)) × (List (List Int × Int × List Bool × Bool × Int × Bool × Int × (List (Int × Bool)))) × (List (Int × (List (Int × Int × Bool × List Int)))) × List Int)) → Int → Int → Int → (List (Int × (List (Int × List Int × Bool)) × (List (List Int × Int × List Bool × Bool × Int × Bool × Int × (List (Int × Bool)))) × (List (Int × (List (Int × Int × Bool × List Int)))) × List Int)) → (List (Int × Int × Bool × Int × Int × Int × Bool × List Int)) → (List Int) → Option ((Bool) ⊕ (Bool × Int × Int × Bool × Int × Int × (List (Int × (List (Int × List Int × Bool)) × (List (List Int × Int × List Bool × Bool × Int × Bool × Int × (List (Int × Bool)))) × (List (Int × (List (Int × Int × Bool × List Int)))) × List Int)) × (List (Int × Int × Bool × Int × Int × Int × Bool × List Int)) × Int × Int × (List (Int × (List (Int × List Int × Bool)) × (List (List Int × Int × List Bool × Bool × Int × Bool × Int × (List (Int × Bool)))) × (List (Int × (List (Int × Int × Bool × List Int)))) × List Int)) × (List (Int × Int × Bool × Int × Int × Int × Bool × List Int)) × Int × Bool × Bool × Bool × Int × Bool × Bool × (List (Int × (List (Int × List Int × Bool)) × (List (List Int × Int × List Bool × Bool × Int × Bool × Int × (List (Int × Bool)))) × (List (Int × (List (Int × Int × Bool × List Int)))) × List Int)) × Int × Int × Bool × Int × (List (Int × (List (Int × List Int × Bool)) × (List (List Int × Int × List Bool × Bool × Int × Bool × Int × (List (Int × Bool)))) × (List (Int × (List (Int × Int × Bool × List Int)))) × List Int)) × (List (Int × Int × Bool × Int × Int × Int × Bool × List Int)) × List Int))
  | 0, _, _, _, _, _, _, _, _, _, _, _, _, _, _, _, _, _, _, _, _, _, _, _, _, _, _ => none
  | n + 1, p664, p665, p666, p667, p668, p669, p670, p671, p672, p673, p674, p675, p676, p677, p678, p679, p680, p681, p682, p683, p684, p685, p686, p687, p688, p689 =>
    bif (decide (p685 < p684)) then
      bif ((decide ((0 : Int) ≤ p685)) && (decide (p685 < (p683.length : Int)))) then
      bif ((decide ((0 : Int) ≤ p665)) && (decide (p665 < (((p683.getD p685.toNat (0, [], [], [], [])).2.1).length : Int)))) then
      bif (!(decide (((((p683.getD p685.toNat (0, [], [], [], [])).2.1).getD p665.toNat (0, [], false)).1) = (0 : Int)))) then
        (f_slices_Equal_int_int ((((p683.getD p685.toNat (0, [], [], [], [])).2.1).getD p665.toNat (0, [], false)).2.1) p689).bind fun y690 =>
        bif (!y690) then
          some (.inl false)
        else
          f_impl_Sane.l1 n p664 p665 p666 p667 p668 p669 p670 p671 p672 p673 p674 p675 p676 p677 p678 p679 p680 p681 p682 p683 p684 (IntKind.wrap .i64 (p685 + (1 : Int))) p686 p687 p688 p689
      else
        f_impl_Sane.l1 n p664 p665 p666 p667 p668 p669 p670 p671 p672 p673 p674 p675 p676 p677 p678 p679 p680 p681 p682 p683 p684 (IntKind.wrap .i64 (p685 + (1 : Int))) p686 p687 p688 p689
      else none
      else none
    else
      some (.inr (p664, p665, p666, p667, p668, p669, p670, p671, p672, p673, p674, p675, p676, p677, p678, p679, p680, p681, p682, p683, p684, p685, false, p686, p687, p688, p689))
noncomputable def f_impl_Sane.l0 : Nat → Bool → Int → Int → (List (Int × (List (Int × List Int × Bool)) × (List (List Int × Int × List Bool × Bool × Int × Bool × Int × (List (Int × Bool)))) × (List (Int × (List (Int × Int × Bool × List Int)))) × List Int)) → (List (Int × Int × Bool × Int × Int × Int × Bool × List Int)) → Option ((Bool) ⊕ (Bool × Int × (List (Int × (List (Int × List Int × Bool)) × (List (List Int × Int × List Bool × Bool × Int × Bool × Int × (List (Int × Bool)))) × (List (Int × (List (Int × Int × Bool × List Int)))) × List Int)) × (List (Int × Int × Bool × Int × Int × Int × Bool × List Int))))
  | 0, _, _, _, _, _ => none
  | n + 1, p657, p658, p659, p660, p661 =>
    bif (decide (p658 < (6 : Int))) then
      (f_impl_truth p659 p660 p661 p658).bind fun y662 =>
      (f_impl_alone p659 p660 p661 p658).bind fun y663 =>
      bif (!y663) then
        some (.inl false)
      else
        bif (!(decide ((y662.length : Int) = (4 : Int)))) then
          some (.inl false)
        else
          (f_impl_Sane.l1 N p657 p658 p658 true p658 p659 p660 p661 p658 p659 p660 p661 p658 y663 (!y663) false (y662.length : Int) (!(decide ((y662.length : Int) = (4 : Int)))) false p660 (p660.length : Int) 0 p659 p660 p661 y662).bind fun r691 =>
          cs r691 (fun a692 =>
            some (.inl a692)) (fun b693 =>
            f_impl_Sane.l0 n b693.1 (IntKind.wrap .i64 (b693.2.2.1 + (1 : Int))) b693.2.2.2.2.2.2.2.2.2.2.2.2.2.2.2.2.2.2.2.2.2.2.2.1 b693.2.2.2.2.2.2.2.2.2.2.2.2.2.2.2.2.2.2.2.2.2.2.2.2.1 b693.2.2.2.2.2.2.2.2.2.2.2.2.2.2.2.2.2.2.2.2.2.2.2.2.2.1)
    else
      some (.inr (p657, p659, p660, p661))
noncomputable def f_impl_Sane (x0 : Int) (x1 : List (Int × (List (Int × List Int × Bool)) × (List (List Int × Int × List Bool × Bool × Int × Bool × Int × (List (Int × Bool)))) × (List (Int × (List (Int × Int × Bool × List Int)))) × List Int)) (x2 : List (Int × Int × Bool × Int × Int × Int × Bool × List Int)) : Option (Bool) :=
  (f_impl_WorldOk x0 x1 x2).bind fun y656 =>
  bif (!y656) then
    some false
  else
    (f_impl_Sane.l0 N false 0 x0 x1 x2).bind fun r694 =>
    cs r694 (fun a695 =>
      some a695) (fun b696 =>
      (f_impl_Sane.l2 N b696.1 b696.2.2.1 (b696.2.2.1.length : Int) 0 b696.2.1 b696.2.2.1 b696.2.2.2).bind fun r730 =>
      cs r730 (fun a731 =>
        some a731) (fun b732 =>
        some true))
noncomputable def C17 : Con := ⟨[(.B, true, [(.int .i64), (.sl R7), (.sl R8)])], [(false, [.bool])], [(.int .i64), (.sl R7), (.sl R8)], [.bool], fun (p : Int × (List (Int × (List (Int × List Int × Bool)) × (List (List Int × Int × List Bool × Bool × Int × Bool × Int × (List (Int × Bool)))) × (List (Int × (List (Int × Int × Bool × List Int)))) × List Int)) × (List (Int × Int × Bool × Int × Int × Int × Bool × List Int))) => f_impl_Sane p.1 p.2.1 p.2.2⟩
noncomputable def f_impl_Sane.l0.c : LoopCon := ⟨1000, 6, [1, 2, 15], ⟨[(1, .ptr 1000 0), (2, .bool false), (15, .int .i64 0)], [(1000, .box [.int .i64 0, .bor none R7 [], .bor none R8 []])], 1001⟩, [.bool, (.int .i64), (.int .i64), (.sl R7), (.sl R8)], [⟨.ret, [2], ⟨[(2, .bool false)], [], 1000⟩, [.bool]⟩, ⟨.exit 0, [1, 2], ⟨[(1, .ptr 1000 0), (2, .bool false)], [(1000, .box [.int .i64 0, .bor none R7 [], .bor none R8 []])], 1001⟩, [.bool, (.int .i64), (.sl R7), (.sl R8)]⟩], fun (p : Bool × Int × Int × (List (Int × (List (Int × List Int × Bool)) × (List (List Int × Int × List Bool × Bool × Int × Bool × Int × (List (Int × Bool)))) × (List (Int × (List (Int × Int × Bool × List Int)))) × List Int)) × (List (Int × Int × Bool × Int × Int × Int × Bool × List Int))) => f_impl_Sane.l0 N p.1 p.2.1 p.2.2.1 p.2.2.2.1 p.2.2.2.2⟩
noncomputable def f_impl_Sane.l1.c : LoopCon := ⟨1000, 6, [1, 2, 3, 4, 15, 16, 17, 18, 19, 20, 21, 22, 23, 24, 25, 26, 27, 28, 29, 30, 31, 32, 33], ⟨[(1, .ptr 1000 0), (2, .bool false), (3, .int .i64 0), (4, .ref 1001 [] none), (15, .int .i64 0), (16, .bool false), (17, .int .i64 0), (18, .agg [.int .i64 0, .bor none R7 [], .bor none R8 []]), (19, .int .i64 0), (20, .ref 1001 [] none), (21, .agg [.int .i64 0, .bor none R7 [], .bor none R8 []]), (22, .int .i64 0), (23, .bool false), (24, .bool false), (25, .bool false), (26, .ref 1001 [] none), (27, .int .i64 0), (28, .bool false), (29, .bool false), (30, .ptr 1000 1), (31, .bor none R7 []), (32, .int .i64 0), (33, .int .i64 0)], [(1000, .box [.int .i64 0, .bor none R7 [], .bor none R8 []]), (1001, .row R0 [])], 1002⟩, [.bool, (.int .i64), (.int .i64), .bool, (.int .i64), (.int .i64), (.sl R7), (.sl R8), (.int .i64), (.int .i64), (.sl R7), (.sl R8), (.int .i64), .bool, .bool, .bool, (.int .i64), .bool, .bool, (.sl R7), (.int .i64), (.int .i64), (.int .i64), (.sl R7), (.sl R8), (.sl R0)], [⟨.ret, [2], ⟨[(2, .bool false)], [], 1000⟩, [.bool]⟩, ⟨.exit 2, [1, 2, 3, 4, 15, 16, 17, 18, 19, 20, 21, 22, 23, 24, 25, 26, 27, 28, 29, 30, 31, 32, 33, 34], ⟨[(1, .ptr 1000 0), (2, .bool false), (3, .int .i64 0), (4, .ref 1001 [] none), (15, .int .i64 0), (16, .bool false), (17, .int .i64 0), (18, .agg [.int .i64 0, .bor none R7 [], .bor none R8 []]), (19, .int .i64 0), (20, .ref 1001 [] none), (21, .agg [.int .i64 0, .bor none R7 [], .bor none R8 []]), (22, .int .i64 0), (23, .bool false), (24, .bool false), (25, .bool false), (26, .ref 1001 [] none), (27, .int .i64 0), (28, .bool false), (29, .bool false), (30, .ptr 1000 1), (31, .bor none R7 []), (32, .int .i64 0), (33, .int .i64 0), (34, .bool false)], [(1000, .box [.int .i64 0, .bor none R7 [], .bor none R8 []]), (1001, .row R0 [])], 1002⟩, [.bool, (.int .i64), (.int .i64), .bool, (.int .i64), (.int .i64), (.sl R7), (.sl R8), (.int .i64), (.int .i64), (.sl R7), (.sl R8), (.int .i64), .bool, .bool, .bool, (.int .i64), .bool, .bool, (.sl R7), (.int .i64), (.int .i64), .bool, (.int .i64), (.sl R7), (.sl R8), (.sl R0)]⟩], fun (p : Bool × Int × Int × Bool × Int × Int × (List (Int × (List (Int × List Int × Bool)) × (List (List Int × Int × List Bool × Bool × Int × Bool × Int × (List (Int × Bool)))) × (List (Int × (List (Int × Int × Bool × List Int)))) × List Int)) × (List (Int × Int × Bool × Int × Int × Int × Bool × List Int)) × Int × Int × (List (Int × (List (Int × List Int × Bool)) × (List (List Int × Int × List Bool × Bool × Int × Bool × Int × (List (Int × Bool)))) × (List (Int × (List (Int × Int × Bool × List Int)))) × List Int)) × (List (Int × Int × Bool × Int × Int × Int × Bool × List Int)) × Int × Bool × Bool × Bool × Int × Bool × Bool × (List (Int × (List (Int × List Int × Bool)) × (List (List Int × Int × List Bool × Bool × Int × Bool × Int × (List (Int × Bool)))) × (List (Int × (List (Int × Int × Bool × List Int)))) × List Int)) × Int × Int × Int × (List (Int × (List (Int × List Int × Bool)) × (List (List Int × Int × List Bool × Bool × Int × Bool × Int × (List (Int × Bool)))) × (List (Int × (List (Int × Int × Bool × List Int)))) × List Int)) × (List (Int × Int × Bool × Int × Int × Int × Bool × List Int)) × List Int) => f_impl_Sane.l1 N p.1 p.2.1 p.2.2.1 p.2.2.2.1 p.2.2.2.2.1 p.2.2.2.2.2.1 p.2.2.2.2.2.2.1 p.2.2.2.2.2.2.2.1 p.2.2.2.2.2.2.2.2.1 p.2.2.2.2.2.2.2.2.2.1 p.2.2.2.2.2.2.2.2.2.2.1 p.2.2.2.2.2.2.2.2.2.2.2.1 p.2.2.2.2.2.2.2.2.2.2.2.2.1 p.2.2.2.2.2.2.2.2.2.2.2.2.2.1 p.2.2.2.2.2.2.2.2.2.2.2.2.2.2.1 p.2.2.2.2.2.2.2.2.2.2.2.2.2.2.2.1 p.2.2.2.2.2.2.2.2.2.2.2.2.2.2.2.2.1 p.2.2.2.2.2.2.2.2.2.2.2.2.2.2.2.2.2.1 p.2.2.2.2.2.2.2.2.2.2.2.2.2.2.2.2.2.2.1 p.2.2.2.2.2.2.2.2.2.2.2.2.2.2.2.2.2.2.2.1 p.2.2.2.2.2.2.2.2.2.2.2.2.2.2.2.2.2.2.2.2.1 p.2.2.2.2.2.2.2.2.2.2.2.2.2.2.2.2.2.2.2.2.2.1 p.2.2.2.2.2.2.2.2.2.2.2.2.2.2.2.2.2.2.2.2.2.2.1 p.2.2.2.2.2.2.2.2.2.2.2.2.2.2.2.2.2.2.2.2.2.2.2.1 p.2.2.2.2.2.2.2.2.2.2.2.2.2.2.2.2.2.2.2.2.2.2.2.2.1 p.2.2.2.2.2.2.2.2.2.2.2.2.2.2.2.2.2.2.2.2.2.2.2.2.2⟩
noncomputable def f_impl_Sane.l2.c : LoopCon := ⟨1000, 6, [1, 2, 55, 56, 57], ⟨[(1, .ptr 1000 0), (2, .bool false), (55, .bor none R7 []), (56, .int .i64 0), (57, .int .i64 0)], [(1000, .box [.int .i64 0, .bor none R7 [], .bor none R8 []])], 1001⟩, [.bool, (.sl R7), (.int .i64), (.int .i64), (.int .i64), (.sl R7), (.sl R8)], [⟨.ret, [2], ⟨[(2, .bool false)], [], 1000⟩, [.bool]⟩, ⟨.exit 4, [2], ⟨[(2, .bool false)], [], 1000⟩, [.bool]⟩], fun (p : Bool × (List (Int × (List (Int × List Int × Bool)) × (List (List Int × Int × List Bool × Bool × Int × Bool × Int × (List (Int × Bool)))) × (List (Int × (List (Int × Int × Bool × List Int)))) × List Int)) × Int × Int × Int × (List (Int × (List (Int × List Int × Bool)) × (List (List Int × Int × List Bool × Bool × Int × Bool × Int × (List (Int × Bool)))) × (List (Int × (List (Int × Int × Bool × List Int)))) × List Int)) × (List (Int × Int × Bool × Int × Int × Int × Bool × List Int))) => f_impl_Sane.l2 N p.1 p.2.1 p.2.2.1 p.2.2.2.1 p.2.2.2.2.1 p.2.2.2.2.2.1 p.2.2.2.2.2.2⟩
noncomputable def f_impl_Sane.l3.c : LoopCon := ⟨1000, 6, [1, 2, 8, 9, 55, 56, 57, 58, 59, 61, 62, 63, 64, 65], ⟨[(1, .ptr 1000 0), (2, .bool false), (8, .int .i64 0), (9, .ptr 1001 0), (55, .bor none R7 []), (56, .int .i64 0), (57, .int .i64 0), (58, .bool false), (59, .int .i64 0), (61, .agg [.int .i64 0, .bor none R1 [], .bor none R4 [], .bor none R6 [], .bor none R0 []]), (62, .ptr 1000 1), (63, .bor none R7 []), (64, .int .i64 0), (65, .int .i64 0)], [(1000, .box [.int .i64 0, .bor none R7 [], .bor none R8 []]), (1001, .box [.int .i64 0, .bor none R1 [], .bor none R4 [], .bor none R6 [], .bor none R0 []])], 1002⟩, [.bool, (.int .i64), (.sl R7), (.int .i64), (.int .i64), .bool, (.int .i64), (.int .i64), (.sl R1), (.sl R4), (.sl R6), (.sl R0), (.sl R7), (.int .i64), (.int .i64), (.int .i64), (.sl R7), (.sl R8), (.int .i64), (.sl R1), (.sl R4), (.sl R6), (.sl R0)], [⟨.ret, [2], ⟨[(2, .bool false)], [], 1000⟩, [.bool]⟩, ⟨.exit 6, [1, 2, 8, 9, 55, 56, 57, 58, 59, 61, 62, 63, 64, 65, 66], ⟨[(1, .ptr 1000 0), (2, .bool false), (8, .int .i64 0), (9, .ptr 1001 0), (55, .bor none R7 []), (56, .int .i64 0), (57, .int .i64 0), (58, .bool false), (59, .int .i64 0), (61, .agg [.int .i64 0, .bor none R1 [], .bor none R4 [], .bor none R6 [], .bor none R0 []]), (62, .ptr 1000 1), (63, .bor none R7 []), (64, .int .i64 0), (65, .int .i64 0), (66, .bool false)], [(1000, .box [.int .i64 0, .bor none R7 [], .bor none R8 []]), (1001, .box [.int .i64 0, .bor none R1 [], .bor none R4 [], .bor none R6 [], .bor none R0 []])], 1002⟩, [.bool, (.int .i64), (.sl R7), (.int .i64), (.int .i64), .bool, (.int .i64), (.int .i64), (.sl R1), (.sl R4), (.sl R6), (.sl R0), (.sl R7), (.int .i64), (.int .i64), .bool, (.int .i64), (.sl R7), (.sl R8), (.int .i64), (.sl R1), (.sl R4), (.sl R6), (.sl R0)]⟩], fun (p : Bool × Int × (List (Int × (List (Int × List Int × Bool)) × (List (List Int × Int × List Bool × Bool × Int × Bool × Int × (List (Int × Bool)))) × (List (Int × (List (Int × Int × Bool × List Int)))) × List Int)) × Int × Int × Bool × Int × Int × (List (Int × List Int × Bool)) × (List (List Int × Int × List Bool × Bool × Int × Bool × Int × (List (Int × Bool)))) × (List (Int × (List (Int × Int × Bool × List Int)))) × List Int × (List (Int × (List (Int × List Int × Bool)) × (List (List Int × Int × List Bool × Bool × Int × Bool × Int × (List (Int × Bool)))) × (List (Int × (List (Int × Int × Bool × List Int)))) × List Int)) × Int × Int × Int × (List (Int × (List (Int × List Int × Bool)) × (List (List Int × Int × List Bool × Bool × Int × Bool × Int × (List (Int × Bool)))) × (List (Int × (List (Int × Int × Bool × List Int)))) × List Int)) × (List (Int × Int × Bool × Int × Int × Int × Bool × List Int)) × Int × (List (Int × List Int × Bool)) × (List (List Int × Int × List Bool × Bool × Int × Bool × Int × (List (Int × Bool)))) × (List (Int × (List (Int × Int × Bool × List Int)))) × List Int) => f_impl_Sane.l3 N p.1 p.2.1 p.2.2.1 p.2.2.2.1 p.2.2.2.2.1 p.2.2.2.2.2.1 p.2.2.2.2.2.2.1 p.2.2.2.2.2.2.2.1 p.2.2.2.2.2.2.2.2.1 p.2.2.2.2.2.2.2.2.2.1 p.2.2.2.2.2.2.2.2.2.2.1 p.2.2.2.2.2.2.2.2.2.2.2.1 p.2.2.2.2.2.2.2.2.2.2.2.2.1 p.2.2.2.2.2.2.2.2.2.2.2.2.2.1 p.2.2.2.2.2.2.2.2.2.2.2.2.2.2.1 p.2.2.2.2.2.2.2.2.2.2.2.2.2.2.2.1 p.2.2.2.2.2.2.2.2.2.2.2.2.2.2.2.2.1 p.2.2.2.2.2.2.2.2.2.2.2.2.2.2.2.2.2.1 p.2.2.2.2.2.2.2.2.2.2.2.2.2.2.2.2.2.2.1 p.2.2.2.2.2.2.2.2.2.2.2.2.2.2.2.2.2.2.2.1 p.2.2.2.2.2.2.2.2.2.2.2.2.2.2.2.2.2.2.2.2.1 p.2.2.2.2.2.2.2.2.2.2.2.2.2.2.2.2.2.2.2.2.2.1 p.2.2.2.2.2.2.2.2.2.2.2.2.2.2.2.2.2.2.2.2.2.2⟩
noncomputable abbrev K17 : Cons := [(64, C64), (66, C66), (71, C71), (72, C72)]
noncomputable abbrev L17 : List (Nat × Loops) := [(17, [(4, f_impl_Sane.l0.c), (10, f_impl_Sane.l1.c), (18, f_impl_Sane.l2.c), (21, f_impl_Sane.l3.c)])]
abbrev Q17 : List (Nat × List (Int × Nat) × Nat) := []
noncomputable abbrev X17 : Nat → Ctx := ctxOf tb K17 L17 Q17
theorem f_impl_Sane.l0.ok : ∀ n p, (fun (p : Bool × Int × Int × (List (Int × (List (Int × List Int × Bool)) × (List (List Int × Int × List Bool × Bool × Int × Bool × Int × (List (Int × Bool)))) × (List (Int × (List (Int × Int × Bool × List Int)))) × List Int)) × (List (Int × Int × Bool × Int × Int × Int × Bool × List Int))) => f_impl_Sane.l0 n p.1 p.2.1 p.2.2.1 p.2.2.2.1 p.2.2.2.2) p = iterD (roundOf fs X17 6 17 4 false f_impl_Sane.l0.c) n p :=
  iter_of (l := fun n => fun (p : Bool × Int × Int × (List (Int × (List (Int × List Int × Bool)) × (List (List Int × Int × List Bool × Bool × Int × Bool × Int × (List (Int × Bool)))) × (List (Int × (List (Int × Int × Bool × List Int)))) × List Int)) × (List (Int × Int × Bool × Int × Int × Int × Bool × List Int))) => f_impl_Sane.l0 n p.1 p.2.1 p.2.2.1 p.2.2.2.1 p.2.2.2.2) (fun _ => rfl) (fun n p => by kernel_rfl)
theorem f_impl_Sane.l1.ok : ∀ n p, (fun (p : Bool × Int × Int × Bool × Int × Int × (List (Int × (List (Int × List Int × Bool)) × (List (List Int × Int × List Bool × Bool × Int × Bool × Int × (List (Int × Bool)))) × (List (Int × (List (Int × Int × Bool × List Int)))) × List Int)) × (List (Int × Int × Bool × Int × Int × Int × Bool × List Int)) × Int × Int × (List (Int × (List (Int × List Int × Bool)) × (List (List Int × Int × List Bool × Bool × Int × Bool × Int × (List (Int × Bool)))) × (List (Int × (List (Int × Int × Bool × List Int)))) × List Int)) × (List (Int × Int × Bool × Int × Int × Int × Bool × List Int)) × Int × Bool × Bool × Bool × Int × Bool × Bool × (List (Int × (List (Int × List Int × Bool)) × (List (List Int × Int × List Bool × Bool × Int × Bool × Int × (List (Int × Bool)))) × (List (Int × (List (Int × Int × Bool × List Int)))) × List Int)) × Int × Int × Int × (List (Int × (List (Int × List Int × Bool)) × (List (List Int × Int × List Bool × Bool × Int × Bool × Int × (List (Int × Bool)))) × (List (Int × (List (Int × Int × Bool × List Int)))) × List Int)) × (List (Int × Int × Bool × Int × Int × Int × Bool × List Int)) × List Int) => f_impl_Sane.l1 n p.1 p.2.1 p.2.2.1 p.2.2.2.1 p.2.2.2.2.1 p.2.2.2.2.2.1 p.2.2.2.2.2.2.1 p.2.2.2.2.2.2.2.1 p.2.2.2.2.2.2.2.2.1 p.2.2.2.2.2.2.2.2.2.1 p.2.2.2.2.2.2.2.2.2.2.1 p.2.2.2.2.2.2.2.2.2.2.2.1 p.2.2.2.2.2.2.2.2.2.2.2.2.1 p.2.2.2.2.2.2.2.2.2.2.2.2.2.1 p.2.2.2.2.2.2.2.2.2.2.2.2.2.2.1 p.2.2.2.2.2.2.2.2.2.2.2.2.2.2.2.1 p.2.2.2.2.2.2.2.2.2.2.2.2.2.2.2.2.1 p.2.2.2.2.2.2.2.2.2.2.2.2.2.2.2.2.2.1 p.2.2.2.2.2.2.2.2.2.2.2.2.2.2.2.2.2.2.1 p.2.2.2.2.2.2.2.2.2.2.2.2.2.2.2.2.2.2.2.1 p.2.2.2.2.2.2.2.2.2.2.2.2.2.2.2.2.2.2.2.2.1 p.2.2.2.2.2.2.2.2.2.2.2.2.2.2.2.2.2.2.2.2.2.1 p.2.2.2.2.2.2.2.2.2.2.2.2.2.2.2.2.2.2.2.2.2.2.1 p.2.2.2.2.2.2.2.2.2.2.2.2.2.2.2.2.2.2.2.2.2.2.2.1 p.2.2.2.2.2.2.2.2.2.2.2.2.2.2.2.2.2.2.2.2.2.2.2.2.1 p.2.2.2.2.2.2.2.2.2.2.2.2.2.2.2.2.2.2.2.2.2.2.2.2.2) p = iterD (roundOf fs X17 6 17 10 false f_impl_Sane.l1.c) n p :=
  iter_of (l := fun n => fun (p : Bool × Int × Int × Bool × Int × Int × (List (Int × (List (Int × List Int × Bool)) × (List (List Int × Int × List Bool × Bool × Int × Bool × Int × (List (Int × Bool)))) × (List (Int × (List (Int × Int × Bool × List Int)))) × List Int)) × (List (Int × Int × Bool × Int × Int × Int × Bool × List Int)) × Int × Int × (List (Int × (List (Int × List Int × Bool)) × (List (List Int × Int × List Bool × Bool × Int × Bool × Int × (List (Int × Bool)))) × (List (Int × (List (Int × Int × Bool × List Int)))) × List Int)) × (List (Int × Int × Bool × Int × Int × Int × Bool × List Int)) × Int × Bool × Bool × Bool × Int × Bool × Bool × (List (Int × (List (Int × List Int × Bool)) × (List (List Int × Int × List Bool × Bool × Int × Bool × Int × (List (Int × Bool)))) × (List (Int × (List (Int × Int × Bool × List Int)))) × List Int)) × Int × Int × Int × (List (Int × (List (Int × List Int × Bool)) × (List (List Int × Int × List Bool × Bool × Int × Bool × Int × (List (Int × Bool)))) × (List (Int × (List (Int × Int × Bool × List Int)))) × List Int)) × (List (Int × Int × Bool × Int × Int × Int × Bool × List Int)) × List Int) => f_impl_Sane.l1 n p.1 p.2.1 p.2.2.1 p.2.2.2.1 p.2.2.2.2.1 p.2.2.2.2.2.1 p.2.2.2.2.2.2.1 p.2.2.2.2.2.2.2.1 p.2.2.2.2.2.2.2.2.1 p.2.2.2.2.2.2.2.2.2.1 p.2.2.2.2.2.2.2.2.2.2.1 p.2.2.2.2.2.2.2.2.2.2.2.1 p.2.2.2.2.2.2.2.2.2.2.2.2.1 p.2.2.2.2.2.2.2.2.2.2.2.2.2.1 p.2.2.2.2.2.2.2.2.2.2.2.2.2.2.1 p.2.2.2.2.2.2.2.2.2.2.2.2.2.2.2.1 p.2.2.2.2.2.2.2.2.2.2.2.2.2.2.2.2.1 p.2.2.2.2.2.2.2.2.2.2.2.2.2.2.2.2.2.1 p.2.2.2.2.2.2.2.2.2.2.2.2.2.2.2.2.2.2.1 p.2.2.2.2.2.2.2.2.2.2.2.2.2.2.2.2.2.2.2.1 p.2.2.2.2.2.2.2.2.2.2.2.2.2.2.2.2.2.2.2.2.1 p.2.2.2.2.2.2.2.2.2.2.2.2.2.2.2.2.2.2.2.2.2.1 p.2.2.2.2.2.2.2.2.2.2.2.2.2.2.2.2.2.2.2.2.2.2.1 p.2.2.2.2.2.2.2.2.2.2.2.2.2.2.2.2.2.2.2.2.2.2.2.1 p.2.2.2.2.2.2.2.2.2.2.2.2.2.2.2.2.2.2.2.2.2.2.2.2.1 p.2.2.2.2.2.2.2.2.2.2.2.2.2.2.2.2.2.2.2.2.2.2.2.2.2) (fun _ => rfl) (fun n p => by kernel_rfl)
theorem f_impl_Sane.l2.ok : ∀ n p, (fun (p : Bool × (List (Int × (List (Int × List Int × Bool)) × (List (List Int × Int × List Bool × Bool × Int × Bool × Int × (List (Int × Bool)))) × (List (Int × (List (Int × Int × Bool × List Int)))) × List Int)) × Int × Int × Int × (List (Int × (List (Int × List Int × Bool)) × (List (List Int × Int × List Bool × Bool × Int × Bool × Int × (List (Int × Bool)))) × (List (Int × (List (Int × Int × Bool × List Int)))) × List Int)) × (List (Int × Int × Bool × Int × Int × Int × Bool × List Int))) => f_impl_Sane.l2 n p.1 p.2.1 p.2.2.1 p.2.2.2.1 p.2.2.2.2.1 p.2.2.2.2.2.1 p.2.2.2.2.2.2) p = iterD (roundOf fs X17 6 17 18 false f_impl_Sane.l2.c) n p :=
  iter_of (l := fun n => fun (p : Bool × (List (Int × (List (Int × List Int × Bool)) × (List (List Int × Int × List Bool × Bool × Int × Bool × Int × (List (Int × Bool)))) × (List (Int × (List (Int × Int × Bool × List Int)))) × List Int)) × Int × Int × Int × (List (Int × (List (Int × List Int × Bool)) × (List (List Int × Int × List Bool × Bool × Int × Bool × Int × (List (Int × Bool)))) × (List (Int × (List (Int × Int × Bool × List Int)))) × List Int)) × (List (Int × Int × Bool × Int × Int × Int × Bool × List Int))) => f_impl_Sane.l2 n p.1 p.2.1 p.2.2.1 p.2.2.2.1 p.2.2.2.2.1 p.2.2.2.2.2.1 p.2.2.2.2.2.2) (fun _ => rfl) (fun n p => by kernel_rfl)
theorem f_impl_Sane.l3.ok : ∀ n p, (fun (p : Bool × Int × (List (Int × (List (Int × List Int × Bool)) × (List (List Int × Int × List Bool × Bool × Int × Bool × Int × (List (Int × Bool)))) × (List (Int × (List (Int × Int × Bool × List Int)))) × List Int)) × Int × Int × Bool × Int × Int × (List (Int × List Int × Bool)) × (List (List Int × Int × List Bool × Bool × Int × Bool × Int × (List (Int × Bool)))) × (List (Int × (List (Int × Int × Bool × List Int)))) × List Int × (List (Int × (List (Int × List Int × Bool)) × (List (List Int × Int × List Bool × Bool × Int × Bool × Int × (List (Int × Bool)))) × (List (Int × (List (Int × Int × Bool × List Int)))) × List Int)) × Int × Int × Int × (List (Int × (List (Int × List Int × Bool)) × (List (List Int × Int × List Bool × Bool × Int × Bool × Int × (List (Int × Bool)))) × (List (Int × (List (Int × Int × Bool × List Int)))) × List Int)) × (List (Int × Int × Bool × Int × Int × Int × Bool × List Int)) × Int × (List (Int × List Int × Bool)) × (List (List Int × Int × List Bool × Bool × Int × Bool × Int × (List (Int × Bool)))) × (List (Int × (List (Int × Int × Bool × List Int)))) × List Int) => f_impl_Sane.l3 n p.1 p.2.1 p.2.2.1 p.2.2.2.1 p.2.2.2.2.1 p.2.2.2.2.2.1 p.2.2.2.2.2.2.1 p.2.2.2.2.2.2.2.1 p.2.2.2.2.2.2.2.2.1 p.2.2.2.2.2.2.2.2.2.1 p.2.2.2.2.2.2.2.2.2.2.1 p.2.2.2.2.2.2.2.2.2.2.2.1 p.2.2.2.2.2.2.2.2.2.2.2.2.1 p.2.2.2.2.2.2.2.2.2.2.2.2.2.1 p.2.2.2.2.2.2.2.2.2.2.2.2.2.2.1 p.2.2.2.2.2.2.2.2.2.2.2.2.2.2.2.1 p.2.2.2.2.2.2.2.2.2.2.2.2.2.2.2.2.1 p.2.2.2.2.2.2.2.2.2.2.2.2.2.2.2.2.2.1 p.2.2.2.2.2.2.2.2.2.2.2.2.2.2.2.2.2.2.1 p.2.2.2.2.2.2.2.2.2.2.2.2.2.2.2.2.2.2.2.1 p.2.2.2.2.2.2.2.2.2.2.2.2.2.2.2.2.2.2.2.2.1 p.2.2.2.2.2.2.2.2.2.2.2.2.2.2.2.2.2.2.2.2.2.1 p.2.2.2.2.2.2.2.2.2.2.2.2.2.2.2.2.2.2.2.2.2.2) p = iterD (roundOf fs X17 6 17 21 false f_impl_Sane.l3.c) n p :=
  iter_of (l := fun n => fun (p : Bool × Int × (List (Int × (List (Int × List Int × Bool)) × (List (List Int × Int × List Bool × Bool × Int × Bool × Int × (List (Int × Bool)))) × (List (Int × (List (Int × Int × Bool × List Int)))) × List Int)) × Int × Int × Bool × Int × Int × (List (Int × List Int × Bool)) × (List (List Int × Int × List Bool × Bool × Int × Bool × Int × (List (Int × Bool)))) × (List (Int × (List (Int × Int × Bool × List Int)))) × List Int × (List (Int × (List (Int × List Int × Bool)) × (List (List Int × Int × List Bool × Bool × Int × Bool × Int × (List (Int × Bool)))) × (List (Int × (List (Int × Int × Bool × List Int)))) × List Int)) × Int × Int × Int × (List (Int × (List (Int × List Int × Bool)) × (List (List Int × Int × List Bool × Bool × Int × Bool × Int × (List (Int × Bool)))) × (List (Int × (List (Int × Int × Bool × List Int)))) × List Int)) × (List (Int × Int × Bool × Int × Int × Int × Bool × List Int)) × Int × (List (Int × List Int × Bool)) × (List (List Int × Int × List Bool × Bool × Int × Bool × Int × (List (Int × Bool)))) × (List (Int × (List (Int × Int × Bool × List Int)))) × List Int) => f_impl_Sane.l3 n p.1 p.2.1 p.2.2.1 p.2.2.2.1 p.2.2.2.2.1 p.2.2.2.2.2.1 p.2.2.2.2.2.2.1 p.2.2.2.2.2.2.2.1 p.2.2.2.2.2.2.2.2.1 p.2.2.2.2.2.2.2.2.2.1 p.2.2.2.2.2.2.2.2.2.2.1 p.2.2.2.2.2.2.2.2.2.2.2.1 p.2.2.2.2.2.2.2.2.2.2.2.2.1 p.2.2.2.2.2.2.2.2.2.2.2.2.2.1 p.2.2.2.2.2.2.2.2.2.2.2.2.2.2.1 p.2.2.2.2.2.2.2.2.2.2.2.2.2.2.2.1 p.2.2.2.2.2.2.2.2.2.2.2.2.2.2.2.2.1 p.2.2.2.2.2.2.2.2.2.2.2.2.2.2.2.2.2.1 p.2.2.2.2.2.2.2.2.2.2.2.2.2.2.2.2.2.2.1 p.2.2.2.2.2.2.2.2.2.2.2.2.2.2.2.2.2.2.2.1 p.2.2.2.2.2.2.2.2.2.2.2.2.2.2.2.2.2.2.2.2.1 p.2.2.2.2.2.2.2.2.2.2.2.2.2.2.2.2.2.2.2.2.2.1 p.2.2.2.2.2.2.2.2.2.2.2.2.2.2.2.2.2.2.2.2.2.2) (fun _ => rfl) (fun n p => by kernel_rfl)
theorem E17 : ∀ x, funRun fs X17 6 17 C17 x = C17.fn x := fun x => by kernel_rfl
theorem B17 : ConB Tryz.prog 17 C17 := ConB.make FS MIX TY (cons := K17) (L := L17) (ptrs := Q17) ⟨S64, S66, S71, S72, trivial⟩ trivial ⟨⟨⟨N, fun p => f_impl_Sane.l0.ok N p⟩, ⟨N, fun p => f_impl_Sane.l1.ok N p⟩, ⟨N, fun p => f_impl_Sane.l2.ok N p⟩, ⟨N, fun p => f_impl_Sane.l3.ok N p⟩, trivial⟩, trivial⟩ rfl rfl E17
theorem S17 : ConS Tryz.prog 17 C17 := B17.call rfl
/-! laws.eqIntS: function 39 -/
noncomputable def f_laws_eqIntS.l0 : Nat → (List Int) → (List Int) → Bool → Int → Option ((Bool) ⊕ (Bool))
  | 0, _, _, _, _ => none
  | n + 1, p733, p734, p735, p736 =>
    bif (decide (p736 < (p733.length : Int))) then
      bif ((decide ((0 : Int) ≤ p736)) && (decide (p736 < (p733.length : Int)))) then
      bif ((decide ((0 : Int) ≤ p736)) && (decide (p736 < (p734.length : Int)))) then
      bif (!(decide ((p733.getD p736.toNat 0) = (p734.getD p736.toNat 0)))) then
        some (.inl false)
      else
        f_laws_eqIntS.l0 n p733 p734 p735 (IntKind.wrap .i64 (p736 + (1 : Int)))
      else none
      else none
    else
      some (.inr p735)
noncomputable def f_laws_eqIntS (x0 : List Int) (x1 : List Int) : Option (Bool) :=
  bif (!(decide ((x0.length : Int) = (x1.length : Int)))) then
    some false
  else
    (f_laws_eqIntS.l0 N x0 x1 false 0).bind fun r737 =>
    cs r737 (fun a738 =>
      some a738) (fun b739 =>
      some true)
noncomputable def C39 : Con := ⟨[(.B, false, [(.sl R0)]), (.B, false, [(.sl R0)])], [(false, [.bool])], [(.sl R0), (.sl R0)], [.bool], fun (p : List Int × List Int) => f_laws_eqIntS p.1 p.2⟩
noncomputable def f_laws_eqIntS.l0.c : LoopCon := ⟨1000, 6, [0, 1, 4, 5], ⟨[(0, .bor none R0 []), (1, .bor none R0 []), (4, .bool false), (5, .int .i64 0)], [], 1000⟩, [(.sl R0), (.sl R0), .bool, (.int .i64)], [⟨.ret, [4], ⟨[(4, .bool false)], [], 1000⟩, [.bool]⟩, ⟨.exit 0, [4], ⟨[(4, .bool false)], [], 1000⟩, [.bool]⟩], fun (p : List Int × List Int × Bool × Int) => f_laws_eqIntS.l0 N p.1 p.2.1 p.2.2.1 p.2.2.2⟩
noncomputable abbrev K39 : Cons := []
noncomputable abbrev L39 : List (Nat × Loops) := [(39, [(4, f_laws_eqIntS.l0.c)])]
abbrev Q39 : List (Nat × List (Int × Nat) × Nat) := []
noncomputable abbrev X39 : Nat → Ctx := ctxOf tb K39 L39 Q39
theorem f_laws_eqIntS.l0.ok : ∀ n p, (fun (p : List Int × List Int × Bool × Int) => f_laws_eqIntS.l0 n p.1 p.2.1 p.2.2.1 p.2.2.2) p = iterD (roundOf fs X39 6 39 4 false f_laws_eqIntS.l0.c) n p :=
  iter_of (l := fun n => fun (p : List Int × List Int × Bool × Int) => f_laws_eqIntS.l0 n p.1 p.2.1 p.2.2.1 p.2.2.2) (fun _ => rfl) (fun n p => by kernel_rfl)
theorem E39 : ∀ x, funRun fs X39 6 39 C39 x = C39.fn x := fun x => by kernel_rfl
theorem B39 : ConB Tryz.prog 39 C39 := ConB.make FS MIX TY (cons := K39) (L := L39) (ptrs := Q39) trivial trivial ⟨⟨⟨N, fun p => f_laws_eqIntS.l0.ok N p⟩, trivial⟩, trivial⟩ rfl rfl E39
theorem S39 : ConS Tryz.prog 39 C39 := B39.call rfl
/-! laws.eqFrame: function 164 -/
noncomputable def f_laws_eqFrame (x0 : Int) (x1 : List Int) (x2 : Bool) (x3 : Int) (x4 : List Int) (x5 : Bool) : Option (Bool) :=
  bif (!(decide (x0 = x3))) then
    some false
  else
    (f_laws_eqIntS x1 x4).bind fun y740 =>
    bif (!y740) then
      some false
    else
      bif (!(x2 == x5)) then
        some false
      else
        some true
noncomputable def C164 : Con := ⟨[(.B, true, [(.int .i64), (.sl R0), .bool]), (.B, true, [(.int .i64), (.sl R0), .bool])], [(false, [.bool])], [(.int .i64), (.sl R0), .bool, (.int .i64), (.sl R0), .bool], [.bool], fun (p : Int × List Int × Bool × Int × List Int × Bool) => f_laws_eqFrame p.1 p.2.1 p.2.2.1 p.2.2.2.1 p.2.2.2.2.1 p.2.2.2.2.2⟩
noncomputable abbrev K164 : Cons := [(39, C39)]
noncomputable abbrev L164 : List (Nat × Loops) := []
abbrev Q164 : List (Nat × List (Int × Nat) × Nat) := []
noncomputable abbrev X164 : Nat → Ctx := ctxOf tb K164 L164 Q164
theorem E164 : ∀ x, funRun fs X164 6 164 C164 x = C164.fn x := fun x => by kernel_rfl
theorem B164 : ConB Tryz.prog 164 C164 := ConB.make FS MIX TY (cons := K164) (L := L164) (ptrs := Q164) ⟨S39, trivial⟩ trivial trivial rfl rfl E164
theorem S164 : ConS Tryz.prog 164 C164 := B164.call rfl
/-! laws.eqFrameS: function 87 -/
noncomputable def f_laws_eqFrameS.l0 : Nat → (List (Int × List Int × Bool)) → (List (Int × List Int × Bool)) → Bool → Int → Option ((Bool) ⊕ (Bool))
  | 0, _, _, _, _ => none
  | n + 1, p741, p742, p743, p744 =>
    bif (decide (p744 < (p741.length : Int))) then
      bif ((decide ((0 : Int) ≤ p744)) && (decide (p744 < (p741.length : Int)))) then
      bif ((decide ((0 : Int) ≤ p744)) && (decide (p744 < (p742.length : Int)))) then
      (f_laws_eqFrame ((p741.getD p744.toNat (0, [], false)).1) ((p741.getD p744.toNat (0, [], false)).2.1) ((p741.getD p744.toNat (0, [], false)).2.2) ((p742.getD p744.toNat (0, [], false)).1) ((p742.getD p744.toNat (0, [], false)).2.1) ((p742.getD p744.toNat (0, [], false)).2.2)).bind fun y745 =>
      bif (!y745) then
        some (.inl false)
      else
        f_laws_eqFrameS.l0 n p741 p742 p743 (IntKind.wrap .i64 (p744 + (1 : Int)))
      else none
      else none
    else
      some (.inr p743)
noncomputable def f_laws_eqFrameS (x0 : List (Int × List Int × Bool)) (x1 : List (Int × List Int × Bool)) : Option (Bool) :=
  bif (!(decide ((x0.length : Int) = (x1.length : Int)))) then
    some false
  else
    (f_laws_eqFrameS.l0 N x0 x1 false 0).bind fun r746 =>
    cs r746 (fun a747 =>
      some a747) (fun b748 =>
      some true)
noncomputable def C87 : Con := ⟨[(.B, false, [(.sl R1)]), (.B, false, [(.sl R1)])], [(false, [.bool])], [(.sl R1), (.sl R1)], [.bool], fun (p : (List (Int × List Int × Bool)) × (List (Int × List Int × Bool))) => f_laws_eqFrameS p.1 p.2⟩
noncomputable def f_laws_eqFrameS.l0.c : LoopCon := ⟨1000, 6, [0, 1, 4, 5], ⟨[(0, .bor none R1 []), (1, .bor none R1 []), (4, .bool false), (5, .int .i64 0)], [], 1000⟩, [(.sl R1), (.sl R1), .bool, (.int .i64)], [⟨.ret, [4], ⟨[(4, .bool false)], [], 1000⟩, [.bool]⟩, ⟨.exit 0, [4], ⟨[(4, .bool false)], [], 1000⟩, [.bool]⟩], fun (p : (List (Int × List Int × Bool)) × (List (Int × List Int × Bool)) × Bool × Int) => f_laws_eqFrameS.l0 N p.1 p.2.1 p.2.2.1 p.2.2.2⟩
noncomputable abbrev K87 : Cons := [(164, C164)]
noncomputable abbrev L87 : List (Nat × Loops) := [(87, [(4, f_laws_eqFrameS.l0.c)])]
abbrev Q87 : List (Nat × List (Int × Nat) × Nat) := []
noncomputable abbrev X87 : Nat → Ctx := ctxOf tb K87 L87 Q87
theorem f_laws_eqFrameS.l0.ok : ∀ n p, (fun (p : (List (Int × List Int × Bool)) × (List (Int × List Int × Bool)) × Bool × Int) => f_laws_eqFrameS.l0 n p.1 p.2.1 p.2.2.1 p.2.2.2) p = iterD (roundOf fs X87 6 87 4 false f_laws_eqFrameS.l0.c) n p :=
  iter_of (l := fun n => fun (p : (List (Int × List Int × Bool)) × (List (Int × List Int × Bool)) × Bool × Int) => f_laws_eqFrameS.l0 n p.1 p.2.1 p.2.2.1 p.2.2.2) (fun _ => rfl) (fun n p => by kernel_rfl)
theorem E87 : ∀ x, funRun fs X87 6 87 C87 x = C87.fn x := fun x => by kernel_rfl
theorem B87 : ConB Tryz.prog 87 C87 := ConB.make FS MIX TY (cons := K87) (L := L87) (ptrs := Q87) ⟨S164, trivial⟩ trivial ⟨⟨⟨N, fun p => f_laws_eqFrameS.l0.ok N p⟩, trivial⟩, trivial⟩ rfl rfl E87
theorem S87 : ConS Tryz.prog 87 C87 := B87.call rfl
/-! laws.eqBoolS: function 203 -/
noncomputable def f_laws_eqBoolS.l0 : Nat → (List Bool) → (List Bool) → Bool → Int → Option ((Bool) ⊕ (Bool))
  | 0, _, _, _, _ => none
  | n + 1, p749, p750, p751, p752 =>
    bif (decide (p752 < (p749.length : Int))) then
      bif ((decide ((0 : Int) ≤ p752)) && (decide (p752 < (p749.length : Int)))) then
      bif ((decide ((0 : Int) ≤ p752)) && (decide (p752 < (p750.length : Int)))) then
      bif (!((p749.getD p752.toNat false) == (p750.getD p752.toNat false))) then
        some (.inl false)
      else
        f_laws_eqBoolS.l0 n p749 p750 p751 (IntKind.wrap .i64 (p752 + (1 : Int)))
      else none
      else none
    else
      some (.inr p751)
noncomputable def f_laws_eqBoolS (x0 : List Bool) (x1 : List Bool) : Option (Bool) :=
  bif (!(decide ((x0.length : Int) = (x1.length : Int)))) then
    some false
  else
    (f_laws_eqBoolS.l0 N x0 x1 false 0).bind fun r753 =>
    cs r753 (fun a754 =>
      some a754) (fun b755 =>
      some true)
noncomputable def C203 : Con := ⟨[(.B, false, [(.sl R2)]), (.B, false, [(.sl R2)])], [(false, [.bool])], [(.sl R2), (.sl R2)], [.bool], fun (p : List Bool × List Bool) => f_laws_eqBoolS p.1 p.2⟩
noncomputable def f_laws_eqBoolS.l0.c : LoopCon := ⟨1000, 6, [0, 1, 4, 5], ⟨[(0, .bor none R2 []), (1, .bor none R2 []), (4, .bool false), (5, .int .i64 0)], [], 1000⟩, [(.sl R2), (.sl R2), .bool, (.int .i64)], [⟨.ret, [4], ⟨[(4, .bool false)], [], 1000⟩, [.bool]⟩, ⟨.exit 0, [4], ⟨[(4, .bool false)], [], 1000⟩, [.bool]⟩], fun (p : List Bool × List Bool × Bool × Int) => f_laws_eqBoolS.l0 N p.1 p.2.1 p.2.2.1 p.2.2.2⟩
noncomputable abbrev K203 : Cons := []
noncomputable abbrev L203 : List (Nat × Loops) := [(203, [(4, f_laws_eqBoolS.l0.c)])]
abbrev Q203 : List (Nat × List (Int × Nat) × Nat) := []
noncomputable abbrev X203 : Nat → Ctx := ctxOf tb K203 L203 Q203
theorem f_laws_eqBoolS.l0.ok : ∀ n p, (fun (p : List Bool × List Bool × Bool × Int) => f_laws_eqBoolS.l0 n p.1 p.2.1 p.2.2.1 p.2.2.2) p = iterD (roundOf fs X203 6 203 4 false f_laws_eqBoolS.l0.c) n p :=
  iter_of (l := fun n => fun (p : List Bool × List Bool × Bool × Int) => f_laws_eqBoolS.l0 n p.1 p.2.1 p.2.2.1 p.2.2.2) (fun _ => rfl) (fun n p => by kernel_rfl)
theorem E203 : ∀ x, funRun fs X203 6 203 C203 x = C203.fn x := fun x => by kernel_rfl
theorem B203 : ConB Tryz.prog 203 C203 := ConB.make FS MIX TY (cons := K203) (L := L203) (ptrs := Q203) trivial trivial ⟨⟨⟨N, fun p => f_laws_eqBoolS.l0.ok N p⟩, trivial⟩, trivial⟩ rfl rfl E203
theorem S203 : ConS Tryz.prog 203 C203 := B203.call rfl
/-! laws.eqWait: function 204 -/
noncomputable def f_laws_eqWait (x0 : Int) (x1 : Bool) (x2 : Int) (x3 : Bool) : Option (Bool) :=
  bif (!(decide (x0 = x2))) then
    some false
  else
    bif (!(x1 == x3)) then
      some false
    else
      some true
noncomputable def C204 : Con := ⟨[(.B, true, [(.int .i64), .bool]), (.B, true, [(.int .i64), .bool])], [(false, [.bool])], [(.int .i64), .bool, (.int .i64), .bool], [.bool], fun (p : Int × Bool × Int × Bool) => f_laws_eqWait p.1 p.2.1 p.2.2.1 p.2.2.2⟩
noncomputable abbrev K204 : Cons := []
noncomputable abbrev L204 : List (Nat × Loops) := []
abbrev Q204 : List (Nat × List (Int × Nat) × Nat) := []
noncomputable abbrev X204 : Nat → Ctx := ctxOf tb K204 L204 Q204
theorem E204 : ∀ x, funRun fs X204 6 204 C204 x = C204.fn x := fun x => by kernel_rfl
theorem B204 : ConB Tryz.prog 204 C204 := ConB.make FS MIX TY (cons := K204) (L := L204) (ptrs := Q204) trivial trivial trivial rfl rfl E204
theorem S204 : ConS Tryz.prog 204 C204 := B204.call rfl
/-! laws.eqWaitS: function 205 -/
noncomputable def f_laws_eqWaitS.l0 : Nat → (List (Int × Bool)) → (List (Int × Bool)) → Bool → Int → Option ((Bool) ⊕ (Bool))
  | 0, _, _, _, _ => none
  | n + 1, p756, p757, p758, p759 =>
    bif (decide (p759 < (p756.length : Int))) then
      bif ((decide ((0 : Int) ≤ p759)) && (decide (p759 < (p756.length : Int)))) then
      bif ((decide ((0 : Int) ≤ p759)) && (decide (p759 < (p757.length : Int)))) then
      (f_laws_eqWait ((p756.getD p759.toNat (0, false)).1) ((p756.getD p759.toNat (0, false)).2) ((p757.getD p759.toNat (0, false)).1) ((p757.getD p759.toNat (0, false)).2)).bind fun y760 =>
      bif (!y760) then
        some (.inl false)
      else
        f_laws_eqWaitS.l0 n p756 p757 p758 (IntKind.wrap .i64 (p759 + (1 : Int)))
      else none
      else none
    else
      some (.inr p758)
noncomputable def f_laws_eqWaitS (x0 : List (Int × Bool)) (x1 : List (Int × Bool)) : Option (Bool) :=
  bif (!(decide ((x0.length : Int) = (x1.length : Int)))) then
    some false
  else
    (f_laws_eqWaitS.l0 N x0 x1 false 0).bind fun r761 =>
    cs r761 (fun a762 =>
      some a762) (fun b763 =>
      some true)
noncomputable def C205 : Con := ⟨[(.B, false, [(.sl R3)]), (.B, false, [(.sl R3)])], [(false, [.bool])], [(.sl R3), (.sl R3)], [.bool], fun (p : (List (Int × Bool)) × (List (Int × Bool))) => f_laws_eqWaitS p.1 p.2⟩
noncomputable def f_laws_eqWaitS.l0.c : LoopCon := ⟨1000, 6, [0, 1, 4, 5], ⟨[(0, .bor none R3 []), (1, .bor none R3 []), (4, .bool false), (5, .int .i64 0)], [], 1000⟩, [(.sl R3), (.sl R3), .bool, (.int .i64)], [⟨.ret, [4], ⟨[(4, .bool false)], [], 1000⟩, [.bool]⟩, ⟨.exit 0, [4], ⟨[(4, .bool false)], [], 1000⟩, [.bool]⟩], fun (p : (List (Int × Bool)) × (List (Int × Bool)) × Bool × Int) => f_laws_eqWaitS.l0 N p.1 p.2.1 p.2.2.1 p.2.2.2⟩
noncomputable abbrev K205 : Cons := [(204, C204)]
noncomputable abbrev L205 : List (Nat × Loops) := [(205, [(4, f_laws_eqWaitS.l0.c)])]
abbrev Q205 : List (Nat × List (Int × Nat) × Nat) := []
noncomputable abbrev X205 : Nat → Ctx := ctxOf tb K205 L205 Q205
theorem f_laws_eqWaitS.l0.ok : ∀ n p, (fun (p : (List (Int × Bool)) × (List (Int × Bool)) × Bool × Int) => f_laws_eqWaitS.l0 n p.1 p.2.1 p.2.2.1 p.2.2.2) p = iterD (roundOf fs X205 6 205 4 false f_laws_eqWaitS.l0.c) n p :=
  iter_of (l := fun n => fun (p : (List (Int × Bool)) × (List (Int × Bool)) × Bool × Int) => f_laws_eqWaitS.l0 n p.1 p.2.1 p.2.2.1 p.2.2.2) (fun _ => rfl) (fun n p => by kernel_rfl)
theorem E205 : ∀ x, funRun fs X205 6 205 C205 x = C205.fn x := fun x => by kernel_rfl
theorem B205 : ConB Tryz.prog 205 C205 := ConB.make FS MIX TY (cons := K205) (L := L205) (ptrs := Q205) ⟨S204, trivial⟩ trivial ⟨⟨⟨N, fun p => f_laws_eqWaitS.l0.ok N p⟩, trivial⟩, trivial⟩ rfl rfl E205
theorem S205 : ConS Tryz.prog 205 C205 := B205.call rfl
/-! laws.eqHome: function 165 -/
noncomputable def f_laws_eqHome (x0 : List Int) (x1 : Int) (x2 : List Bool) (x3 : Bool) (x4 : Int) (x5 : Bool) (x6 : Int) (x7 : List (Int × Bool)) (x8 : List Int) (x9 : Int) (x10 : List Bool) (x11 : Bool) (x12 : Int) (x13 : Bool) (x14 : Int) (x15 : List (Int × Bool)) : Option (Bool) :=
  (f_laws_eqIntS x0 x8).bind fun y764 =>
  bif (!y764) then
    some false
  else
    bif (!(decide (x1 = x9))) then
      some false
    else
      (f_laws_eqBoolS x2 x10).bind fun y765 =>
      bif (!y765) then
        some false
      else
        bif (!(x3 == x11)) then
          some false
        else
          (f_laws_eqWait x4 x5 x12 x13).bind fun y766 =>
          bif (!y766) then
            some false
          else
            bif (!(decide (x6 = x14))) then
              some false
            else
              (f_laws_eqWaitS x7 x15).bind fun y767 =>
              bif (!y767) then
                some false
              else
                some true
noncomputable def C165 : Con := ⟨[(.B, true, [(.sl R0), (.int .i64), (.sl R2), .bool, (.int .i64), .bool, (.int .i64), (.sl R3)]), (.B, true, [(.sl R0), (.int .i64), (.sl R2), .bool, (.int .i64), .bool, (.int .i64), (.sl R3)])], [(false, [.bool])], [(.sl R0), (.int .i64), (.sl R2), .bool, (.int .i64), .bool, (.int .i64), (.sl R3), (.sl R0), (.int .i64), (.sl R2), .bool, (.int .i64), .bool, (.int .i64), (.sl R3)], [.bool], fun (p : List Int × Int × List Bool × Bool × Int × Bool × Int × (List (Int × Bool)) × List Int × Int × List Bool × Bool × Int × Bool × Int × (List (Int × Bool))) => f_laws_eqHome p.1 p.2.1 p.2.2.1 p.2.2.2.1 p.2.2.2.2.1 p.2.2.2.2.2.1 p.2.2.2.2.2.2.1 p.2.2.2.2.2.2.2.1 p.2.2.2.2.2.2.2.2.1 p.2.2.2.2.2.2.2.2.2.1 p.2.2.2.2.2.2.2.2.2.2.1 p.2.2.2.2.2.2.2.2.2.2.2.1 p.2.2.2.2.2.2.2.2.2.2.2.2.1 p.2.2.2.2.2.2.2.2.2.2.2.2.2.1 p.2.2.2.2.2.2.2.2.2.2.2.2.2.2.1 p.2.2.2.2.2.2.2.2.2.2.2.2.2.2.2⟩
noncomputable abbrev K165 : Cons := [(39, C39), (203, C203), (204, C204), (205, C205)]
noncomputable abbrev L165 : List (Nat × Loops) := []
abbrev Q165 : List (Nat × List (Int × Nat) × Nat) := []
noncomputable abbrev X165 : Nat → Ctx := ctxOf tb K165 L165 Q165
theorem E165 : ∀ x, funRun fs X165 6 165 C165 x = C165.fn x := fun x => by kernel_rfl
theorem B165 : ConB Tryz.prog 165 C165 := ConB.make FS MIX TY (cons := K165) (L := L165) (ptrs := Q165) ⟨S39, S203, S204, S205, trivial⟩ trivial trivial rfl rfl E165
theorem S165 : ConS Tryz.prog 165 C165 := B165.call rfl
/-! laws.eqHomeS: function 88 -/
noncomputable def f_laws_eqHomeS.l0 : Nat → (List (List Int × Int × List Bool × Bool × Int × Bool × Int × (List (Int × Bool)))) → (List (List Int × Int × List Bool × Bool × Int × Bool × Int × (List (Int × Bool)))) → Bool → Int → Option ((Bool) ⊕ (Bool))
  | 0, _, _, _, _ => none
  | n + 1, p768, p769, p770, p771 =>
    bif (decide (p771 < (p768.length : Int))) then
      bif ((decide ((0 : Int) ≤ p771)) && (decide (p771 < (p768.length : Int)))) then
      bif ((decide ((0 : Int) ≤ p771)) && (decide (p771 < (p769.length : Int)))) then
      (f_laws_eqHome ((p768.getD p771.toNat ([], 0, [], false, 0, false, 0, [])).1) ((p768.getD p771.toNat ([], 0, [], false, 0, false, 0, [])).2.1) ((p768.getD p771.toNat ([], 0, [], false, 0, false, 0, [])).2.2.1) ((p768.getD p771.toNat ([], 0, [], false, 0, false, 0, [])).2.2.2.1) ((p768.getD p771.toNat ([], 0, [], false, 0, false, 0, [])).2.2.2.2.1) ((p768.getD p771.toNat ([], 0, [], false, 0, false, 0, [])).2.2.2.2.2.1) ((p768.getD p771.toNat ([], 0, [], false, 0, false, 0, [])).2.2.2.2.2.2.1) ((p768.getD p771.toNat ([], 0, [], false, 0, false, 0, [])).2.2.2.2.2.2.2) ((p769.getD p771.toNat ([], 0, [], false, 0, false, 0, [])).1) ((p769.getD p771.toNat ([], 0, [], false, 0, false, 0, [])).2.1) ((p769.getD p771.toNat ([], 0, [], false, 0, false, 0, [])).2.2.1) ((p769.getD p771.toNat ([], 0, [], false, 0, false, 0, [])).2.2.2.1) ((p769.getD p771.toNat ([], 0, [], false, 0, false, 0, [])).2.2.2.2.1) ((p769.getD p771.toNat ([], 0, [], false, 0, false, 0, [])).2.2.2.2.2.1) ((p769.getD p771.toNat ([], 0, [], false, 0, false, 0, [])).2.2.2.2.2.2.1) ((p769.getD p771.toNat ([], 0, [], false, 0, false, 0, [])).2.2.2.2.2.2.2)).bind fun y772 =>
      bif (!y772) then
        some (.inl false)
      else
        f_laws_eqHomeS.l0 n p768 p769 p770 (IntKind.wrap .i64 (p771 + (1 : Int)))
      else none
      else none
    else
      some (.inr p770)
noncomputable def f_laws_eqHomeS (x0 : List (List Int × Int × List Bool × Bool × Int × Bool × Int × (List (Int × Bool)))) (x1 : List (List Int × Int × List Bool × Bool × Int × Bool × Int × (List (Int × Bool)))) : Option (Bool) :=
  bif (!(decide ((x0.length : Int) = (x1.length : Int)))) then
    some false
  else
    (f_laws_eqHomeS.l0 N x0 x1 false 0).bind fun r773 =>
    cs r773 (fun a774 =>
      some a774) (fun b775 =>
      some true)
noncomputable def C88 : Con := ⟨[(.B, false, [(.sl R4)]), (.B, false, [(.sl R4)])], [(false, [.bool])], [(.sl R4), (.sl R4)], [.bool], fun (p : (List (List Int × Int × List Bool × Bool × Int × Bool × Int × (List (Int × Bool)))) × (List (List Int × Int × List Bool × Bool × Int × Bool × Int × (List (Int × Bool))))) => f_laws_eqHomeS p.1 p.2⟩
noncomputable def f_laws_eqHomeS.l0.c : LoopCon := ⟨1000, 6, [0, 1, 4, 5], ⟨[(0, .bor none R4 []), (1, .bor none R4 []), (4, .bool false), (5, .int .i64 0)], [], 1000⟩, [(.sl R4), (.sl R4), .bool, (.int .i64)], [⟨.ret, [4], ⟨[(4, .bool false)], [], 1000⟩, [.bool]⟩, ⟨.exit 0, [4], ⟨[(4, .bool false)], [], 1000⟩, [.bool]⟩], fun (p : (List (List Int × Int × List Bool × Bool × Int × Bool × Int × (List (Int × Bool)))) × (List (List Int × Int × List Bool × Bool × Int × Bool × Int × (List (Int × Bool)))) × Bool × Int) => f_laws_eqHomeS.l0 N p.1 p.2.1 p.2.2.1 p.2.2.2⟩
noncomputable abbrev K88 : Cons := [(165, C165)]
noncomputable abbrev L88 : List (Nat × Loops) := [(88, [(4, f_laws_eqHomeS.l0.c)])]
abbrev Q88 : List (Nat × List (Int × Nat) × Nat) := []
noncomputable abbrev X88 : Nat → Ctx := ctxOf tb K88 L88 Q88
theorem f_laws_eqHomeS.l0.ok : ∀ n p, (fun (p : (List (List Int × Int × List Bool × Bool × Int × Bool × Int × (List (Int × Bool)))) × (List (List Int × Int × List Bool × Bool × Int × Bool × Int × (List (Int × Bool)))) × Bool × Int) => f_laws_eqHomeS.l0 n p.1 p.2.1 p.2.2.1 p.2.2.2) p = iterD (roundOf fs X88 6 88 4 false f_laws_eqHomeS.l0.c) n p :=
  iter_of (l := fun n => fun (p : (List (List Int × Int × List Bool × Bool × Int × Bool × Int × (List (Int × Bool)))) × (List (List Int × Int × List Bool × Bool × Int × Bool × Int × (List (Int × Bool)))) × Bool × Int) => f_laws_eqHomeS.l0 n p.1 p.2.1 p.2.2.1 p.2.2.2) (fun _ => rfl) (fun n p => by kernel_rfl)
theorem E88 : ∀ x, funRun fs X88 6 88 C88 x = C88.fn x := fun x => by kernel_rfl
theorem B88 : ConB Tryz.prog 88 C88 := ConB.make FS MIX TY (cons := K88) (L := L88) (ptrs := Q88) ⟨S165, trivial⟩ trivial ⟨⟨⟨N, fun p => f_laws_eqHomeS.l0.ok N p⟩, trivial⟩, trivial⟩ rfl rfl E88
theorem S88 : ConS Tryz.prog 88 C88 := B88.call rfl
/-! laws.eqMsg: function 55 -/
noncomputable def f_laws_eqMsg (x0 : Int) (x1 : Int) (x2 : Bool) (x3 : List Int) (x4 : Int) (x5 : Int) (x6 : Bool) (x7 : List Int) : Option (Bool) :=
  bif (!(decide (x0 = x4))) then
    some false
  else
    bif (!(decide (x1 = x5))) then
      some false
    else
      bif (!(x2 == x6)) then
        some false
      else
        (f_laws_eqIntS x3 x7).bind fun y776 =>
        bif (!y776) then
          some false
        else
          some true
noncomputable def C55 : Con := ⟨[(.B, true, [(.int .i64), (.int .i64), .bool, (.sl R0)]), (.B, true, [(.int .i64), (.int .i64), .bool, (.sl R0)])], [(false, [.bool])], [(.int .i64), (.int .i64), .bool, (.sl R0), (.int .i64), (.int .i64), .bool, (.sl R0)], [.bool], fun (p : Int × Int × Bool × List Int × Int × Int × Bool × List Int) => f_laws_eqMsg p.1 p.2.1 p.2.2.1 p.2.2.2.1 p.2.2.2.2.1 p.2.2.2.2.2.1 p.2.2.2.2.2.2.1 p.2.2.2.2.2.2.2⟩
noncomputable abbrev K55 : Cons := [(39, C39)]
noncomputable abbrev L55 : List (Nat × Loops) := []
abbrev Q55 : List (Nat × List (Int × Nat) × Nat) := []
noncomputable abbrev X55 : Nat → Ctx := ctxOf tb K55 L55 Q55
theorem E55 : ∀ x, funRun fs X55 6 55 C55 x = C55.fn x := fun x => by kernel_rfl
theorem B55 : ConB Tryz.prog 55 C55 := ConB.make FS MIX TY (cons := K55) (L := L55) (ptrs := Q55) ⟨S39, trivial⟩ trivial trivial rfl rfl E55
theorem S55 : ConS Tryz.prog 55 C55 := B55.call rfl
/-! laws.eqMsgS: function 27 -/
noncomputable def f_laws_eqMsgS.l0 : Nat → (List (Int × Int × Bool × List Int)) → (List (Int × Int × Bool × List Int)) → Bool → Int → Option ((Bool) ⊕ (Bool))
  | 0, _, _, _, _ => none
  | n + 1, p777, p778, p779, p780 =>
    bif (decide (p780 < (p777.length : Int))) then
      bif ((decide ((0 : Int) ≤ p780)) && (decide (p780 < (p777.length : Int)))) then
      bif ((decide ((0 : Int) ≤ p780)) && (decide (p780 < (p778.length : Int)))) then
      (f_laws_eqMsg ((p777.getD p780.toNat (0, 0, false, [])).1) ((p777.getD p780.toNat (0, 0, false, [])).2.1) ((p777.getD p780.toNat (0, 0, false, [])).2.2.1) ((p777.getD p780.toNat (0, 0, false, [])).2.2.2) ((p778.getD p780.toNat (0, 0, false, [])).1) ((p778.getD p780.toNat (0, 0, false, [])).2.1) ((p778.getD p780.toNat (0, 0, false, [])).2.2.1) ((p778.getD p780.toNat (0, 0, false, [])).2.2.2)).bind fun y781 =>
      bif (!y781) then
        some (.inl false)
      else
        f_laws_eqMsgS.l0 n p777 p778 p779 (IntKind.wrap .i64 (p780 + (1 : Int)))
      else none
      else none
    else
      some (.inr p779)
noncomputable def f_laws_eqMsgS (x0 : List (Int × Int × Bool × List Int)) (x1 : List (Int × Int × Bool × List Int)) : Option (Bool) :=
  bif (!(decide ((x0.length : Int) = (x1.length : Int)))) then
    some false
  else
    (f_laws_eqMsgS.l0 N x0 x1 false 0).bind fun r782 =>
    cs r782 (fun a783 =>
      some a783) (fun b784 =>
      some true)
noncomputable def C27 : Con := ⟨[(.B, false, [(.sl R5)]), (.B, false, [(.sl R5)])], [(false, [.bool])], [(.sl R5), (.sl R5)], [.bool], fun (p : (List (Int × Int × Bool × List Int)) × (List (Int × Int × Bool × List Int))) => f_laws_eqMsgS p.1 p.2⟩
noncomputable def f_laws_eqMsgS.l0.c : LoopCon := ⟨1000, 6, [0, 1, 4, 5], ⟨[(0, .bor none R5 []), (1, .bor none R5 []), (4, .bool false), (5, .int .i64 0)], [], 1000⟩, [(.sl R5), (.sl R5), .bool, (.int .i64)], [⟨.ret, [4], ⟨[(4, .bool false)], [], 1000⟩, [.bool]⟩, ⟨.exit 0, [4], ⟨[(4, .bool false)], [], 1000⟩, [.bool]⟩], fun (p : (List (Int × Int × Bool × List Int)) × (List (Int × Int × Bool × List Int)) × Bool × Int) => f_laws_eqMsgS.l0 N p.1 p.2.1 p.2.2.1 p.2.2.2⟩
noncomputable abbrev K27 : Cons := [(55, C55)]
noncomputable abbrev L27 : List (Nat × Loops) := [(27, [(4, f_laws_eqMsgS.l0.c)])]
abbrev Q27 : List (Nat × List (Int × Nat) × Nat) := []
noncomputable abbrev X27 : Nat → Ctx := ctxOf tb K27 L27 Q27
theorem f_laws_eqMsgS.l0.ok : ∀ n p, (fun (p : (List (Int × Int × Bool × List Int)) × (List (Int × Int × Bool × List Int)) × Bool × Int) => f_laws_eqMsgS.l0 n p.1 p.2.1 p.2.2.1 p.2.2.2) p = iterD (roundOf fs X27 6 27 4 false f_laws_eqMsgS.l0.c) n p :=
  iter_of (l := fun n => fun (p : (List (Int × Int × Bool × List Int)) × (List (Int × Int × Bool × List Int)) × Bool × Int) => f_laws_eqMsgS.l0 n p.1 p.2.1 p.2.2.1 p.2.2.2) (fun _ => rfl) (fun n p => by kernel_rfl)
theorem E27 : ∀ x, funRun fs X27 6 27 C27 x = C27.fn x := fun x => by kernel_rfl
theorem B27 : ConB Tryz.prog 27 C27 := ConB.make FS MIX TY (cons := K27) (L := L27) (ptrs := Q27) ⟨S55, trivial⟩ trivial ⟨⟨⟨N, fun p => f_laws_eqMsgS.l0.ok N p⟩, trivial⟩, trivial⟩ rfl rfl E27
theorem S27 : ConS Tryz.prog 27 C27 := B27.call rfl
/-! laws.eqSender: function 166 -/
noncomputable def f_laws_eqSender (x0 : Int) (x1 : List (Int × Int × Bool × List Int)) (x2 : Int) (x3 : List (Int × Int × Bool × List Int)) : Option (Bool) :=
  bif (!(decide (x0 = x2))) then
    some false
  else
    (f_laws_eqMsgS x1 x3).bind fun y785 =>
    bif (!y785) then
      some false
    else
      some true
noncomputable def C166 : Con := ⟨[(.B, true, [(.int .i64), (.sl R5)]), (.B, true, [(.int .i64), (.sl R5)])], [(false, [.bool])], [(.int .i64), (.sl R5), (.int .i64), (.sl R5)], [.bool], fun (p : Int × (List (Int × Int × Bool × List Int)) × Int × (List (Int × Int × Bool × List Int))) => f_laws_eqSender p.1 p.2.1 p.2.2.1 p.2.2.2⟩
noncomputable abbrev K166 : Cons := [(27, C27)]
noncomputable abbrev L166 : List (Nat × Loops) := []
abbrev Q166 : List (Nat × List (Int × Nat) × Nat) := []
noncomputable abbrev X166 : Nat → Ctx := ctxOf tb K166 L166 Q166
theorem E166 : ∀ x, funRun fs X166 6 166 C166 x = C166.fn x := fun x => by kernel_rfl
theorem B166 : ConB Tryz.prog 166 C166 := ConB.make FS MIX TY (cons := K166) (L := L166) (ptrs := Q166) ⟨S27, trivial⟩ trivial trivial rfl rfl E166
theorem S166 : ConS Tryz.prog 166 C166 := B166.call rfl
/-! laws.eqSenderS: function 89 -/
noncomputable def f_laws_eqSenderS.l0 : Nat → (List (Int × (List (Int × Int × Bool × List Int)))) → (List (Int × (List (Int × Int × Bool × List Int)))) → Bool → Int → Option ((Bool) ⊕ (Bool))
  | 0, _, _, _, _ => none
  | n + 1, p786, p787, p788, p789 =>
    bif (decide (p789 < (p786.length : Int))) then
      bif ((decide ((0 : Int) ≤ p789)) && (decide (p789 < (p786.length : Int)))) then
      bif ((decide ((0 : Int) ≤ p789)) && (decide (p789 < (p787.length : Int)))) then
      (f_laws_eqSender ((p786.getD p789.toNat (0, [])).1) ((p786.getD p789.toNat (0, [])).2) ((p787.getD p789.toNat (0, [])).1) ((p787.getD p789.toNat (0, [])).2)).bind fun y790 =>
      bif (!y790) then
        some (.inl false)
      else
        f_laws_eqSenderS.l0 n p786 p787 p788 (IntKind.wrap .i64 (p789 + (1 : Int)))
      else none
      else none
    else
      some (.inr p788)
noncomputable def f_laws_eqSenderS (x0 : List (Int × (List (Int × Int × Bool × List Int)))) (x1 : List (Int × (List (Int × Int × Bool × List Int)))) : Option (Bool) :=
  bif (!(decide ((x0.length : Int) = (x1.length : Int)))) then
    some false
  else
    (f_laws_eqSenderS.l0 N x0 x1 false 0).bind fun r791 =>
    cs r791 (fun a792 =>
      some a792) (fun b793 =>
      some true)
noncomputable def C89 : Con := ⟨[(.B, false, [(.sl R6)]), (.B, false, [(.sl R6)])], [(false, [.bool])], [(.sl R6), (.sl R6)], [.bool], fun (p : (List (Int × (List (Int × Int × Bool × List Int)))) × (List (Int × (List (Int × Int × Bool × List Int))))) => f_laws_eqSenderS p.1 p.2⟩
noncomputable def f_laws_eqSenderS.l0.c : LoopCon := ⟨1000, 6, [0, 1, 4, 5], ⟨[(0, .bor none R6 []), (1, .bor none R6 []), (4, .bool false), (5, .int .i64 0)], [], 1000⟩, [(.sl R6), (.sl R6), .bool, (.int .i64)], [⟨.ret, [4], ⟨[(4, .bool false)], [], 1000⟩, [.bool]⟩, ⟨.exit 0, [4], ⟨[(4, .bool false)], [], 1000⟩, [.bool]⟩], fun (p : (List (Int × (List (Int × Int × Bool × List Int)))) × (List (Int × (List (Int × Int × Bool × List Int)))) × Bool × Int) => f_laws_eqSenderS.l0 N p.1 p.2.1 p.2.2.1 p.2.2.2⟩
noncomputable abbrev K89 : Cons := [(166, C166)]
noncomputable abbrev L89 : List (Nat × Loops) := [(89, [(4, f_laws_eqSenderS.l0.c)])]
abbrev Q89 : List (Nat × List (Int × Nat) × Nat) := []
noncomputable abbrev X89 : Nat → Ctx := ctxOf tb K89 L89 Q89
theorem f_laws_eqSenderS.l0.ok : ∀ n p, (fun (p : (List (Int × (List (Int × Int × Bool × List Int)))) × (List (Int × (List (Int × Int × Bool × List Int)))) × Bool × Int) => f_laws_eqSenderS.l0 n p.1 p.2.1 p.2.2.1 p.2.2.2) p = iterD (roundOf fs X89 6 89 4 false f_laws_eqSenderS.l0.c) n p :=
  iter_of (l := fun n => fun (p : (List (Int × (List (Int × Int × Bool × List Int)))) × (List (Int × (List (Int × Int × Bool × List Int)))) × Bool × Int) => f_laws_eqSenderS.l0 n p.1 p.2.1 p.2.2.1 p.2.2.2) (fun _ => rfl) (fun n p => by kernel_rfl)
theorem E89 : ∀ x, funRun fs X89 6 89 C89 x = C89.fn x := fun x => by kernel_rfl
theorem B89 : ConB Tryz.prog 89 C89 := ConB.make FS MIX TY (cons := K89) (L := L89) (ptrs := Q89) ⟨S166, trivial⟩ trivial ⟨⟨⟨N, fun p => f_laws_eqSenderS.l0.ok N p⟩, trivial⟩, trivial⟩ rfl rfl E89
theorem S89 : ConS Tryz.prog 89 C89 := B89.call rfl
/-! laws.eqReceiver: function 167 -/
noncomputable def f_laws_eqReceiver (x0 : Int) (x1 : Int) : Option (Bool) :=
  bif (!(decide (x0 = x1))) then
    some false
  else
    some true
noncomputable def C167 : Con := ⟨[(.B, true, [(.int .i64)]), (.B, true, [(.int .i64)])], [(false, [.bool])], [(.int .i64), (.int .i64)], [.bool], fun (p : Int × Int) => f_laws_eqReceiver p.1 p.2⟩
noncomputable abbrev K167 : Cons := []
noncomputable abbrev L167 : List (Nat × Loops) := []
abbrev Q167 : List (Nat × List (Int × Nat) × Nat) := []
noncomputable abbrev X167 : Nat → Ctx := ctxOf tb K167 L167 Q167
theorem E167 : ∀ x, funRun fs X167 6 167 C167 x = C167.fn x := fun x => by kernel_rfl
theorem B167 : ConB Tryz.prog 167 C167 := ConB.make FS MIX TY (cons := K167) (L := L167) (ptrs := Q167) trivial trivial trivial rfl rfl E167
theorem S167 : ConS Tryz.prog 167 C167 := B167.call rfl
/-! laws.eqReceiverS: function 90 -/
noncomputable def f_laws_eqReceiverS.l0 : Nat → (List Int) → (List Int) → Bool → Int → Option ((Bool) ⊕ (Bool))
  | 0, _, _, _, _ => none
  | n + 1, p794, p795, p796, p797 =>
    bif (decide (p797 < (p794.length : Int))) then
      bif ((decide ((0 : Int) ≤ p797)) && (decide (p797 < (p794.length : Int)))) then
      bif ((decide ((0 : Int) ≤ p797)) && (decide (p797 < (p795.length : Int)))) then
      (f_laws_eqReceiver (p794.getD p797.toNat 0) (p795.getD p797.toNat 0)).bind fun y798 =>
      bif (!y798) then
        some (.inl false)
      else
        f_laws_eqReceiverS.l0 n p794 p795 p796 (IntKind.wrap .i64 (p797 + (1 : Int)))
      else none
      else none
    else
      some (.inr p796)
noncomputable def f_laws_eqReceiverS (x0 : List Int) (x1 : List Int) : Option (Bool) :=
  bif (!(decide ((x0.length : Int) = (x1.length : Int)))) then
    some false
  else
    (f_laws_eqReceiverS.l0 N x0 x1 false 0).bind fun r799 =>
    cs r799 (fun a800 =>
      some a800) (fun b801 =>
      some true)
noncomputable def C90 : Con := ⟨[(.B, false, [(.sl R0)]), (.B, false, [(.sl R0)])], [(false, [.bool])], [(.sl R0), (.sl R0)], [.bool], fun (p : List Int × List Int) => f_laws_eqReceiverS p.1 p.2⟩
noncomputable def f_laws_eqReceiverS.l0.c : LoopCon := ⟨1000, 6, [0, 1, 4, 5], ⟨[(0, .bor none R0 []), (1, .bor none R0 []), (4, .bool false), (5, .int .i64 0)], [], 1000⟩, [(.sl R0), (.sl R0), .bool, (.int .i64)], [⟨.ret, [4], ⟨[(4, .bool false)], [], 1000⟩, [.bool]⟩, ⟨.exit 0, [4], ⟨[(4, .bool false)], [], 1000⟩, [.bool]⟩], fun (p : List Int × List Int × Bool × Int) => f_laws_eqReceiverS.l0 N p.1 p.2.1 p.2.2.1 p.2.2.2⟩
noncomputable abbrev K90 : Cons := [(167, C167)]
noncomputable abbrev L90 : List (Nat × Loops) := [(90, [(4, f_laws_eqReceiverS.l0.c)])]
abbrev Q90 : List (Nat × List (Int × Nat) × Nat) := []
noncomputable abbrev X90 : Nat → Ctx := ctxOf tb K90 L90 Q90
theorem f_laws_eqReceiverS.l0.ok : ∀ n p, (fun (p : List Int × List Int × Bool × Int) => f_laws_eqReceiverS.l0 n p.1 p.2.1 p.2.2.1 p.2.2.2) p = iterD (roundOf fs X90 6 90 4 false f_laws_eqReceiverS.l0.c) n p :=
  iter_of (l := fun n => fun (p : List Int × List Int × Bool × Int) => f_laws_eqReceiverS.l0 n p.1 p.2.1 p.2.2.1 p.2.2.2) (fun _ => rfl) (fun n p => by kernel_rfl)
theorem E90 : ∀ x, funRun fs X90 6 90 C90 x = C90.fn x := fun x => by kernel_rfl
theorem B90 : ConB Tryz.prog 90 C90 := ConB.make FS MIX TY (cons := K90) (L := L90) (ptrs := Q90) ⟨S167, trivial⟩ trivial ⟨⟨⟨N, fun p => f_laws_eqReceiverS.l0.ok N p⟩, trivial⟩, trivial⟩ rfl rfl E90
theorem S90 : ConS Tryz.prog 90 C90 := B90.call rfl
/-! laws.eqNode: function 22 -/
noncomputable def f_laws_eqNode (x0 : Int) (x1 : List (Int × List Int × Bool)) (x2 : List (List Int × Int × List Bool × Bool × Int × Bool × Int × (List (Int × Bool)))) (x3 : List (Int × (List (Int × Int × Bool × List Int)))) (x4 : List Int) (x5 : Int) (x6 : List (Int × List Int × Bool)) (x7 : List (List Int × Int × List Bool × Bool × Int × Bool × Int × (List (Int × Bool)))) (x8 : List (Int × (List (Int × Int × Bool × List Int)))) (x9 : List Int) : Option (Bool) :=
  bif (!(decide (x0 = x5))) then
    some false
  else
    (f_laws_eqFrameS x1 x6).bind fun y802 =>
    bif (!y802) then
      some false
    else
      (f_laws_eqHomeS x2 x7).bind fun y803 =>
      bif (!y803) then
        some false
      else
        (f_laws_eqSenderS x3 x8).bind fun y804 =>
        bif (!y804) then
          some false
        else
          (f_laws_eqReceiverS x4 x9).bind fun y805 =>
          bif (!y805) then
            some false
          else
            some true
noncomputable def C22 : Con := ⟨[(.B, true, [(.int .i64), (.sl R1), (.sl R4), (.sl R6), (.sl R0)]), (.B, true, [(.int .i64), (.sl R1), (.sl R4), (.sl R6), (.sl R0)])], [(false, [.bool])], [(.int .i64), (.sl R1), (.sl R4), (.sl R6), (.sl R0), (.int .i64), (.sl R1), (.sl R4), (.sl R6), (.sl R0)], [.bool], fun (p : Int × (List (Int × List Int × Bool)) × (List (List Int × Int × List Bool × Bool × Int × Bool × Int × (List (Int × Bool)))) × (List (Int × (List (Int × Int × Bool × List Int)))) × List Int × Int × (List (Int × List Int × Bool)) × (List (List Int × Int × List Bool × Bool × Int × Bool × Int × (List (Int × Bool)))) × (List (Int × (List (Int × Int × Bool × List Int)))) × List Int) => f_laws_eqNode p.1 p.2.1 p.2.2.1 p.2.2.2.1 p.2.2.2.2.1 p.2.2.2.2.2.1 p.2.2.2.2.2.2.1 p.2.2.2.2.2.2.2.1 p.2.2.2.2.2.2.2.2.1 p.2.2.2.2.2.2.2.2.2⟩
noncomputable abbrev K22 : Cons := [(87, C87), (88, C88), (89, C89), (90, C90)]
noncomputable abbrev L22 : List (Nat × Loops) := []
abbrev Q22 : List (Nat × List (Int × Nat) × Nat) := []
noncomputable abbrev X22 : Nat → Ctx := ctxOf tb K22 L22 Q22
theorem E22 : ∀ x, funRun fs X22 6 22 C22 x = C22.fn x := fun x => by kernel_rfl
theorem B22 : ConB Tryz.prog 22 C22 := ConB.make FS MIX TY (cons := K22) (L := L22) (ptrs := Q22) ⟨S87, S88, S89, S90, trivial⟩ trivial trivial rfl rfl E22
theorem S22 : ConS Tryz.prog 22 C22 := B22.call rfl
/-! laws.eqNodeS: function 67 -/
noncomputable def f_laws_eqNodeS.l0 : Nat → (List (Int × (List (Int × List Int × Bool)) × (List (List Int × Int × List Bool × Bool × Int × Bool × Int × (List (Int × Bool)))) × (List (Int × (List (Int × Int × Bool × List Int)))) × List Int)) → (List (Int × (List (Int × List Int × Bool)) × (List (List Int × Int × List Bool × Bool × Int × Bool × Int × (List (Int × Bool)))) × (List (Int × (List (Int × Int × Bool × List Int)))) × List Int)) → Bool → Int → Option ((Bool) ⊕ (Bool))
  | 0, _, _, _, _ => none
  | n + 1, p806, p807, p808, p809 =>
    bif (decide (p809 < (p806.length : Int))) then
      bif ((decide ((0 : Int) ≤ p809)) && (decide (p809 < (p806.length : Int)))) then
      bif ((decide ((0 : Int) ≤ p809)) && (decide (p809 < (p807.length : Int)))) then
      (f_laws_eqNode ((p806.getD p809.toNat (0, [], [], [], [])).1) ((p806.getD p809.toNat (0, [], [], [], [])).2.1) ((p806.getD p809.toNat (0, [], [], [], [])).2.2.1) ((p806.getD p809.toNat (0, [], [], [], [])).2.2.2.1) ((p806.getD p809.toNat (0, [], [], [], [])).2.2.2.2) ((p807.getD p809.toNat (0, [], [], [], [])).1) ((p807.getD p809.toNat (0, [], [], [], [])).2.1) ((p807.getD p809.toNat (0, [], [], [], [])).2.2.1) ((p807.getD p809.toNat (0, [], [], [], [])).2.2.2.1) ((p807.getD p809.toNat (0, [], [], [], [])).2.2.2.2)).bind fun y810 =>
      bif (!y810) then
        some (.inl false)
      else
        f_laws_eqNodeS.l0 n p806 p807 p808 (IntKind.wrap .i64 (p809 + (1 : Int)))
      else none
      else none
    else
      some (.inr p808)
noncomputable def f_laws_eqNodeS (x0 : List (Int × (List (Int × List Int × Bool)) × (List (List Int × Int × List Bool × Bool × Int × Bool × Int × (List (Int × Bool)))) × (List (Int × (List (Int × Int × Bool × List Int)))) × List Int)) (x1 : List (Int × (List (Int × List Int × Bool)) × (List (List Int × Int × List Bool × Bool × Int × Bool × Int × (List (Int × Bool)))) × (List (Int × (List (Int × Int × Bool × List Int)))) × List Int)) : Option (Bool) :=
  bif (!(decide ((x0.length : Int) = (x1.length : Int)))) then
    some false
  else
    (f_laws_eqNodeS.l0 N x0 x1 false 0).bind fun r811 =>
    cs r811 (fun a812 =>
      some a812) (fun b813 =>
      some true)
noncomputable def C67 : Con := ⟨[(.B, false, [(.sl R7)]), (.B, false, [(.sl R7)])], [(false, [.bool])], [(.sl R7), (.sl R7)], [.bool], fun (p : (List (Int × (List (Int × List Int × Bool)) × (List (List Int × Int × List Bool × Bool × Int × Bool × Int × (List (Int × Bool)))) × (List (Int × (List (Int × Int × Bool × List Int)))) × List Int)) × (List (Int × (List (Int × List Int × Bool)) × (List (List Int × Int × List Bool × Bool × Int × Bool × Int × (List (Int × Bool)))) × (List (Int × (List (Int × Int × Bool × List Int)))) × List Int))) => f_laws_eqNodeS p.1 p.2⟩
noncomputable def f_laws_eqNodeS.l0.c : LoopCon := ⟨1000, 6, [0, 1, 4, 5], ⟨[(0, .bor none R7 []), (1, .bor none R7 []), (4, .bool false), (5, .int .i64 0)], [], 1000⟩, [(.sl R7), (.sl R7), .bool, (.int .i64)], [⟨.ret, [4], ⟨[(4, .bool false)], [], 1000⟩, [.bool]⟩, ⟨.exit 0, [4], ⟨[(4, .bool false)], [], 1000⟩, [.bool]⟩], fun (p : (List (Int × (List (Int × List Int × Bool)) × (List (List Int × Int × List Bool × Bool × Int × Bool × Int × (List (Int × Bool)))) × (List (Int × (List (Int × Int × Bool × List Int)))) × List Int)) × (List (Int × (List (Int × List Int × Bool)) × (List (List Int × Int × List Bool × Bool × Int × Bool × Int × (List (Int × Bool)))) × (List (Int × (List (Int × Int × Bool × List Int)))) × List Int)) × Bool × Int) => f_laws_eqNodeS.l0 N p.1 p.2.1 p.2.2.1 p.2.2.2⟩
noncomputable abbrev K67 : Cons := [(22, C22)]
noncomputable abbrev L67 : List (Nat × Loops) := [(67, [(4, f_laws_eqNodeS.l0.c)])]
abbrev Q67 : List (Nat × List (Int × Nat) × Nat) := []
noncomputable abbrev X67 : Nat → Ctx := ctxOf tb K67 L67 Q67
theorem f_laws_eqNodeS.l0.ok : ∀ n p, (fun (p : (List (Int × (List (Int × List Int × Bool)) × (List (List Int × Int × List Bool × Bool × Int × Bool × Int × (List (Int × Bool)))) × (List (Int × (List (Int × Int × Bool × List Int)))) × List Int)) × (List (Int × (List (Int × List Int × Bool)) × (List (List Int × Int × List Bool × Bool × Int × Bool × Int × (List (Int × Bool)))) × (List (Int × (List (Int × Int × Bool × List Int)))) × List Int)) × Bool × Int) => f_laws_eqNodeS.l0 n p.1 p.2.1 p.2.2.1 p.2.2.2) p = iterD (roundOf fs X67 6 67 4 false f_laws_eqNodeS.l0.c) n p :=
  iter_of (l := fun n => fun (p : (List (Int × (List (Int × List Int × Bool)) × (List (List Int × Int × List Bool × Bool × Int × Bool × Int × (List (Int × Bool)))) × (List (Int × (List (Int × Int × Bool × List Int)))) × List Int)) × (List (Int × (List (Int × List Int × Bool)) × (List (List Int × Int × List Bool × Bool × Int × Bool × Int × (List (Int × Bool)))) × (List (Int × (List (Int × Int × Bool × List Int)))) × List Int)) × Bool × Int) => f_laws_eqNodeS.l0 n p.1 p.2.1 p.2.2.1 p.2.2.2) (fun _ => rfl) (fun n p => by kernel_rfl)
theorem E67 : ∀ x, funRun fs X67 6 67 C67 x = C67.fn x := fun x => by kernel_rfl
theorem B67 : ConB Tryz.prog 67 C67 := ConB.make FS MIX TY (cons := K67) (L := L67) (ptrs := Q67) ⟨S22, trivial⟩ trivial ⟨⟨⟨N, fun p => f_laws_eqNodeS.l0.ok N p⟩, trivial⟩, trivial⟩ rfl rfl E67
theorem S67 : ConS Tryz.prog 67 C67 := B67.call rfl
/-! laws.eqPacket: function 144 -/
noncomputable def f_laws_eqPacket (x0 : Int) (x1 : Int) (x2 : Bool) (x3 : Int) (x4 : Int) (x5 : Int) (x6 : Bool) (x7 : List Int) (x8 : Int) (x9 : Int) (x10 : Bool) (x11 : Int) (x12 : Int) (x13 : Int) (x14 : Bool) (x15 : List Int) : Option (Bool) :=
  bif (!(decide (x0 = x8))) then
    some false
  else
    bif (!(decide (x1 = x9))) then
      some false
    else
      bif (!(x2 == x10)) then
        some false
      else
        bif (!(decide (x3 = x11))) then
          some false
        else
          (f_laws_eqMsg x4 x5 x6 x7 x12 x13 x14 x15).bind fun y814 =>
          bif (!y814) then
            some false
          else
            some true
noncomputable def C144 : Con := ⟨[(.B, true, [(.int .i64), (.int .i64), .bool, (.int .i64), (.int .i64), (.int .i64), .bool, (.sl R0)]), (.B, true, [(.int .i64), (.int .i64), .bool, (.int .i64), (.int .i64), (.int .i64), .bool, (.sl R0)])], [(false, [.bool])], [(.int .i64), (.int .i64), .bool, (.int .i64), (.int .i64), (.int .i64), .bool, (.sl R0), (.int .i64), (.int .i64), .bool, (.int .i64), (.int .i64), (.int .i64), .bool, (.sl R0)], [.bool], fun (p : Int × Int × Bool × Int × Int × Int × Bool × List Int × Int × Int × Bool × Int × Int × Int × Bool × List Int) => f_laws_eqPacket p.1 p.2.1 p.2.2.1 p.2.2.2.1 p.2.2.2.2.1 p.2.2.2.2.2.1 p.2.2.2.2.2.2.1 p.2.2.2.2.2.2.2.1 p.2.2.2.2.2.2.2.2.1 p.2.2.2.2.2.2.2.2.2.1 p.2.2.2.2.2.2.2.2.2.2.1 p.2.2.2.2.2.2.2.2.2.2.2.1 p.2.2.2.2.2.2.2.2.2.2.2.2.1 p.2.2.2.2.2.2.2.2.2.2.2.2.2.1 p.2.2.2.2.2.2.2.2.2.2.2.2.2.2.1 p.2.2.2.2.2.2.2.2.2.2.2.2.2.2.2⟩
noncomputable abbrev K144 : Cons := [(55, C55)]
noncomputable abbrev L144 : List (Nat × Loops) := []
abbrev Q144 : List (Nat × List (Int × Nat) × Nat) := []
noncomputable abbrev X144 : Nat → Ctx := ctxOf tb K144 L144 Q144
theorem E144 : ∀ x, funRun fs X144 6 144 C144 x = C144.fn x := fun x => by kernel_rfl
theorem B144 : ConB Tryz.prog 144 C144 := ConB.make FS MIX TY (cons := K144) (L := L144) (ptrs := Q144) ⟨S55, trivial⟩ trivial trivial rfl rfl E144
theorem S144 : ConS Tryz.prog 144 C144 := B144.call rfl
/-! laws.eqPacketS: function 68 -/
noncomputable def f_laws_eqPacketS.l0 : Nat → (List (Int × Int × Bool × Int × Int × Int × Bool × List Int)) → (List (Int × Int × Bool × Int × Int × Int × Bool × List Int)) → Bool → Int → Option ((Bool) ⊕ (Bool))
  | 0, _, _, _, _ => none
  | n + 1, p815, p816, p817, p818 =>
    bif (decide (p818 < (p815.length : Int))) then
      bif ((decide ((0 : Int) ≤ p818)) && (decide (p818 < (p815.length : Int)))) then
      bif ((decide ((0 : Int) ≤ p818)) && (decide (p818 < (p816.length : Int)))) then
      (f_laws_eqPacket ((p815.getD p818.toNat (0, 0, false, 0, 0, 0, false, [])).1) ((p815.getD p818.toNat (0, 0, false, 0, 0, 0, false, [])).2.1) ((p815.getD p818.toNat (0, 0, false, 0, 0, 0, false, [])).2.2.1) ((p815.getD p818.toNat (0, 0, false, 0, 0, 0, false, [])).2.2.2.1) ((p815.getD p818.toNat (0, 0, false, 0, 0, 0, false, [])).2.2.2.2.1) ((p815.getD p818.toNat (0, 0, false, 0, 0, 0, false, [])).2.2.2.2.2.1) ((p815.getD p818.toNat (0, 0, false, 0, 0, 0, false, [])).2.2.2.2.2.2.1) ((p815.getD p818.toNat (0, 0, false, 0, 0, 0, false, [])).2.2.2.2.2.2.2) ((p816.getD p818.toNat (0, 0, false, 0, 0, 0, false, [])).1) ((p816.getD p818.toNat (0, 0, false, 0, 0, 0, false, [])).2.1) ((p816.getD p818.toNat (0, 0, false, 0, 0, 0, false, [])).2.2.1) ((p816.getD p818.toNat (0, 0, false, 0, 0, 0, false, [])).2.2.2.1) ((p816.getD p818.toNat (0, 0, false, 0, 0, 0, false, [])).2.2.2.2.1) ((p816.getD p818.toNat (0, 0, false, 0, 0, 0, false, [])).2.2.2.2.2.1) ((p816.getD p818.toNat (0, 0, false, 0, 0, 0, false, [])).2.2.2.2.2.2.1) ((p816.getD p818.toNat (0, 0, false, 0, 0, 0, false, [])).2.2.2.2.2.2.2)).bind fun y819 =>
      bif (!y819) then
        some (.inl false)
      else
        f_laws_eqPacketS.l0 n p815 p816 p817 (IntKind.wrap .i64 (p818 + (1 : Int)))
      else none
      else none
    else
      some (.inr p817)
noncomputable def f_laws_eqPacketS (x0 : List (Int × Int × Bool × Int × Int × Int × Bool × List Int)) (x1 : List (Int × Int × Bool × Int × Int × Int × Bool × List Int)) : Option (Bool) :=
  bif (!(decide ((x0.length : Int) = (x1.length : Int)))) then
    some false
  else
    (f_laws_eqPacketS.l0 N x0 x1 false 0).bind fun r820 =>
    cs r820 (fun a821 =>
      some a821) (fun b822 =>
      some true)
noncomputable def C68 : Con := ⟨[(.B, false, [(.sl R8)]), (.B, false, [(.sl R8)])], [(false, [.bool])], [(.sl R8), (.sl R8)], [.bool], fun (p : (List (Int × Int × Bool × Int × Int × Int × Bool × List Int)) × (List (Int × Int × Bool × Int × Int × Int × Bool × List Int))) => f_laws_eqPacketS p.1 p.2⟩
noncomputable def f_laws_eqPacketS.l0.c : LoopCon := ⟨1000, 6, [0, 1, 4, 5], ⟨[(0, .bor none R8 []), (1, .bor none R8 []), (4, .bool false), (5, .int .i64 0)], [], 1000⟩, [(.sl R8), (.sl R8), .bool, (.int .i64)], [⟨.ret, [4], ⟨[(4, .bool false)], [], 1000⟩, [.bool]⟩, ⟨.exit 0, [4], ⟨[(4, .bool false)], [], 1000⟩, [.bool]⟩], fun (p : (List (Int × Int × Bool × Int × Int × Int × Bool × List Int)) × (List (Int × Int × Bool × Int × Int × Int × Bool × List Int)) × Bool × Int) => f_laws_eqPacketS.l0 N p.1 p.2.1 p.2.2.1 p.2.2.2⟩
noncomputable abbrev K68 : Cons := [(144, C144)]
noncomputable abbrev L68 : List (Nat × Loops) := [(68, [(4, f_laws_eqPacketS.l0.c)])]
abbrev Q68 : List (Nat × List (Int × Nat) × Nat) := []
noncomputable abbrev X68 : Nat → Ctx := ctxOf tb K68 L68 Q68
theorem f_laws_eqPacketS.l0.ok : ∀ n p, (fun (p : (List (Int × Int × Bool × Int × Int × Int × Bool × List Int)) × (List (Int × Int × Bool × Int × Int × Int × Bool × List Int)) × Bool × Int) => f_laws_eqPacketS.l0 n p.1 p.2.1 p.2.2.1 p.2.2.2) p = iterD (roundOf fs X68 6 68 4 false f_laws_eqPacketS.l0.c) n p :=
  iter_of (l := fun n => fun (p : (List (Int × Int × Bool × Int × Int × Int × Bool × List Int)) × (List (Int × Int × Bool × Int × Int × Int × Bool × List Int)) × Bool × Int) => f_laws_eqPacketS.l0 n p.1 p.2.1 p.2.2.1 p.2.2.2) (fun _ => rfl) (fun n p => by kernel_rfl)
theorem E68 : ∀ x, funRun fs X68 6 68 C68 x = C68.fn x := fun x => by kernel_rfl
theorem B68 : ConB Tryz.prog 68 C68 := ConB.make FS MIX TY (cons := K68) (L := L68) (ptrs := Q68) ⟨S144, trivial⟩ trivial ⟨⟨⟨N, fun p => f_laws_eqPacketS.l0.ok N p⟩, trivial⟩, trivial⟩ rfl rfl E68
theorem S68 : ConS Tryz.prog 68 C68 := B68.call rfl
/-! laws.eqWorld: function 15 -/
noncomputable def f_laws_eqWorld (x0 : Int) (x1 : List (Int × (List (Int × List Int × Bool)) × (List (List Int × Int × List Bool × Bool × Int × Bool × Int × (List (Int × Bool)))) × (List (Int × (List (Int × Int × Bool × List Int)))) × List Int)) (x2 : List (Int × Int × Bool × Int × Int × Int × Bool × List Int)) (x3 : Int) (x4 : List (Int × (List (Int × List Int × Bool)) × (List (List Int × Int × List Bool × Bool × Int × Bool × Int × (List (Int × Bool)))) × (List (Int × (List (Int × Int × Bool × List Int)))) × List Int)) (x5 : List (Int × Int × Bool × Int × Int × Int × Bool × List Int)) : Option (Bool) :=
  bif (!(decide (x0 = x3))) then
    some false
  else
    (f_laws_eqNodeS x1 x4).bind fun y823 =>
    bif (!y823) then
      some false
    else
      (f_laws_eqPacketS x2 x5).bind fun y824 =>
      bif (!y824) then
        some false
      else
        some true
noncomputable def C15 : Con := ⟨[(.B, true, [(.int .i64), (.sl R7), (.sl R8)]), (.B, true, [(.int .i64), (.sl R7), (.sl R8)])], [(false, [.bool])], [(.int .i64), (.sl R7), (.sl R8), (.int .i64), (.sl R7), (.sl R8)], [.bool], fun (p : Int × (List (Int × (List (Int × List Int × Bool)) × (List (List Int × Int × List Bool × Bool × Int × Bool × Int × (List (Int × Bool)))) × (List (Int × (List (Int × Int × Bool × List Int)))) × List Int)) × (List (Int × Int × Bool × Int × Int × Int × Bool × List Int)) × Int × (List (Int × (List (Int × List Int × Bool)) × (List (List Int × Int × List Bool × Bool × Int × Bool × Int × (List (Int × Bool)))) × (List (Int × (List (Int × Int × Bool × List Int)))) × List Int)) × (List (Int × Int × Bool × Int × Int × Int × Bool × List Int))) => f_laws_eqWorld p.1 p.2.1 p.2.2.1 p.2.2.2.1 p.2.2.2.2.1 p.2.2.2.2.2⟩
noncomputable abbrev K15 : Cons := [(67, C67), (68, C68)]
noncomputable abbrev L15 : List (Nat × Loops) := []
abbrev Q15 : List (Nat × List (Int × Nat) × Nat) := []
noncomputable abbrev X15 : Nat → Ctx := ctxOf tb K15 L15 Q15
theorem E15 : ∀ x, funRun fs X15 6 15 C15 x = C15.fn x := fun x => by kernel_rfl
theorem B15 : ConB Tryz.prog 15 C15 := ConB.make FS MIX TY (cons := K15) (L := L15) (ptrs := Q15) ⟨S67, S68, trivial⟩ trivial trivial rfl rfl E15
theorem S15 : ConS Tryz.prog 15 C15 := B15.call rfl
/-! laws.FnExactSane: function 4 -/
noncomputable def f_laws_FnExactSane (x0 : Int) (x1 : List (Int × (List (Int × List Int × Bool)) × (List (List Int × Int × List Bool × Bool × Int × Bool × Int × (List (Int × Bool)))) × (List (Int × (List (Int × Int × Bool × List Int)))) × List Int)) (x2 : List (Int × Int × Bool × Int × Int × Int × Bool × List Int)) : Option (Bool) :=
  (f_laws_szWorld x0 x1 x2 1048576).bind fun y825 =>
  bif (decide (y825 < (0 : Int))) then
    some true
  else
    (f_laws_toWorld x0 x1 x2).bind fun y826 =>
    (f_spec_Sane y826.1 y826.2.1 y826.2.2).bind fun y827 =>
    (f_laws_toWorld x0 x1 x2).bind fun y828 =>
    (f_impl_Sane y828.1 y828.2.1 y828.2.2).bind fun y829 =>
    bif (!(y829 == y827)) then
      some false
    else
      (f_laws_toWorld x0 x1 x2).bind fun y830 =>
      (f_laws_eqWorld y828.1 y828.2.1 y828.2.2 y830.1 y830.2.1 y830.2.2).bind fun y831 =>
      bif (!y831) then
        some false
      else
        some true
noncomputable def C4 : Con := ⟨[(.B, true, [(.int .i64), (.sl R7), (.sl R8)])], [(false, [.bool])], [(.int .i64), (.sl R7), (.sl R8)], [.bool], fun (p : Int × (List (Int × (List (Int × List Int × Bool)) × (List (List Int × Int × List Bool × Bool × Int × Bool × Int × (List (Int × Bool)))) × (List (Int × (List (Int × Int × Bool × List Int)))) × List Int)) × (List (Int × Int × Bool × Int × Int × Int × Bool × List Int))) => f_laws_FnExactSane p.1 p.2.1 p.2.2⟩
noncomputable abbrev K4 : Cons := [(11, C11), (13, C13), (15, C15), (16, C16), (17, C17)]
noncomputable abbrev L4 : List (Nat × Loops) := []
abbrev Q4 : List (Nat × List (Int × Nat) × Nat) := []
noncomputable abbrev X4 : Nat → Ctx := ctxOf tb K4 L4 Q4
theorem E4 : ∀ x, funRun fs X4 6 4 C4 x = C4.fn x := fun x => by kernel_rfl
theorem B4 : ConB Tryz.prog 4 C4 := ConB.make FS MIX TY (cons := K4) (L := L4) (ptrs := Q4) ⟨S11, S13, S15, S16, S17, trivial⟩ trivial trivial rfl rfl E4
theorem S4 : ConS Tryz.prog 4 C4 := B4.call rfl
/-- What is left: the plain law. -/
def Pure : Prop := ∀ x : Tup [(.int .i64), (.sl R7), (.sl R8)], WfT [(.int .i64), (.sl R7), (.sl R8)] x → C4.fn x = some (true : Bool)
end
end Go.Abs
