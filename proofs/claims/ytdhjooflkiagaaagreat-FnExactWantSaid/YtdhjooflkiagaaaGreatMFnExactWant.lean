import Derived.Test.YtdhjooflkiagaaaGreatProg
import Derived.Test.YtdhjooflkiagaaaGreatAbtD
import Derived.KernelRfl
import Derived.Test.YtdhjooflkiagaaaGreatMFnExactWanta
namespace Go.Abs
open Go.Proofs
set_option linter.unusedVariables false
set_option maxRecDepth 100000
noncomputable section
/-! impl.NodeOk: function 47 -/
noncomputable def f_impl_NodeOk.l9 : Nat → (List Int) → Int → Int → Int → Int → (List (Int × List Int × Bool)) → (List (List Int × Int × List Bool × Bool × Int × Bool × Int × (List (Int × Bool)))) → (List (Int × (List (Int × Int × Bool × List Int)))) → (List Int) → Int → Option ((Int × Int × (List (Int × List Int × Bool)) × (List (List Int × Int × List Bool × Bool × Int × Bool × Int × (List (Int × Bool)))) × (List (Int × (List (Int × Int × Bool × List Int)))) × List Int × Int) ⊕ (Int × Int × (List (Int × List Int × Bool)) × (List (List Int × Int × List Bool × Bool × Int × Bool × Int × (List (Int × Bool)))) × (List (Int × (List (Int × Int × Bool × List Int)))) × List Int × Int))
  | 0, _, _, _, _, _, _, _, _, _, _ => none
  | n + 1, p555, p556, p557, p558, p559, p560, p561, p562, p563, p564 =>
    bif (decide (p558 < p557)) then
      bif ((decide ((0 : Int) ≤ p558)) && (decide (p558 < (p555.length : Int)))) then
      (f_impl_NodeOk_4 (p555.getD p558.toNat 0)).bind fun y565 =>
      bif y565 then
        some (.inl (p558, p559, p560, p561, p562, p563, p564))
      else
        f_impl_NodeOk.l9 n p555 p556 p557 (IntKind.wrap .i64 (p558 + (1 : Int))) p559 p560 p561 p562 p563 p564
      else none
    else
      some (.inr (p556, p559, p560, p561, p562, p563, p564))
noncomputable def f_impl_NodeOk.l8 : Nat → (List (Int × (List (Int × Int × Bool × List Int)))) → Int → Int → Int → Int → (List (Int × List Int × Bool)) → (List (List Int × Int × List Bool × Bool × Int × Bool × Int × (List (Int × Bool)))) → (List (Int × (List (Int × Int × Bool × List Int)))) → (List Int) → Int → Option ((Int × Int × (List (Int × List Int × Bool)) × (List (List Int × Int × List Bool × Bool × Int × Bool × Int × (List (Int × Bool)))) × (List (Int × (List (Int × Int × Bool × List Int)))) × List Int × Int) ⊕ (Int × Int × (List (Int × List Int × Bool)) × (List (List Int × Int × List Bool × Bool × Int × Bool × Int × (List (Int × Bool)))) × (List (Int × (List (Int × Int × Bool × List Int)))) × List Int × Int))
  | 0, _, _, _, _, _, _, _, _, _, _ => none
  | n + 1, p538, p539, p540, p541, p542, p543, p544, p545, p546, p547 =>
    bif (decide (p541 < p540)) then
      bif ((decide ((0 : Int) ≤ p541)) && (decide (p541 < (p538.length : Int)))) then
      (f_impl_NodeOk_3 ((p538.getD p541.toNat (0, [])).1) ((p538.getD p541.toNat (0, [])).2)).bind fun y548 =>
      bif y548 then
        some (.inl (p541, p542, p543, p544, p545, p546, p547))
      else
        f_impl_NodeOk.l8 n p538 p539 p540 (IntKind.wrap .i64 (p541 + (1 : Int))) p542 p543 p544 p545 p546 p547
      else none
    else
      some (.inr (p539, p542, p543, p544, p545, p546, p547))
noncomputable def f_impl_NodeOk.l7 : Nat → (List (List Int × Int × List Bool × Bool × Int × Bool × Int × (List (Int × Bool)))) → Int → Int → Int → Int → (List (Int × List Int × Bool)) → (List (List Int × Int × List Bool × Bool × Int × Bool × Int × (List (Int × Bool)))) → (List (Int × (List (Int × Int × Bool × List Int)))) → (List Int) → Int → Option ((Int × Int × (List (Int × List Int × Bool)) × (List (List Int × Int × List Bool × Bool × Int × Bool × Int × (List (Int × Bool)))) × (List (Int × (List (Int × Int × Bool × List Int)))) × List Int × Int) ⊕ (Int × Int × (List (Int × List Int × Bool)) × (List (List Int × Int × List Bool × Bool × Int × Bool × Int × (List (Int × Bool)))) × (List (Int × (List (Int × Int × Bool × List Int)))) × List Int × Int))
  | 0, _, _, _, _, _, _, _, _, _, _ => none
  | n + 1, p515, p516, p517, p518, p519, p520, p521, p522, p523, p524 =>
    bif (decide (p518 < p517)) then
      bif ((decide ((0 : Int) ≤ p518)) && (decide (p518 < (p515.length : Int)))) then
      (f_impl_NodeOk_2 ((p515.getD p518.toNat ([], 0, [], false, 0, false, 0, [])).1) ((p515.getD p518.toNat ([], 0, [], false, 0, false, 0, [])).2.1) ((p515.getD p518.toNat ([], 0, [], false, 0, false, 0, [])).2.2.1) ((p515.getD p518.toNat ([], 0, [], false, 0, false, 0, [])).2.2.2.1) ((p515.getD p518.toNat ([], 0, [], false, 0, false, 0, [])).2.2.2.2.1) ((p515.getD p518.toNat ([], 0, [], false, 0, false, 0, [])).2.2.2.2.2.1) ((p515.getD p518.toNat ([], 0, [], false, 0, false, 0, [])).2.2.2.2.2.2.1) ((p515.getD p518.toNat ([], 0, [], false, 0, false, 0, [])).2.2.2.2.2.2.2) p524).bind fun y525 =>
      bif y525 then
        some (.inl (p518, p519, p520, p521, p522, p523, p524))
      else
        f_impl_NodeOk.l7 n p515 p516 p517 (IntKind.wrap .i64 (p518 + (1 : Int))) p519 p520 p521 p522 p523 p524
      else none
    else
      some (.inr (p516, p519, p520, p521, p522, p523, p524))
noncomputable def f_impl_NodeOk.l6 : Nat → (List Int) → Int → Int → Int → Int → (List (Int × List Int × Bool)) → (List (List Int × Int × List Bool × Bool × Int × Bool × Int × (List (Int × Bool)))) → (List (Int × (List (Int × Int × Bool × List Int)))) → (List Int) → Int → Option ((Int × Int × (List (Int × List Int × Bool)) × (List (List Int × Int × List Bool × Bool × Int × Bool × Int × (List (Int × Bool)))) × (List (Int × (List (Int × Int × Bool × List Int)))) × List Int × Int) ⊕ (Int × Int × (List (Int × List Int × Bool)) × (List (List Int × Int × List Bool × Bool × Int × Bool × Int × (List (Int × Bool)))) × (List (Int × (List (Int × Int × Bool × List Int)))) × List Int × Int))
  | 0, _, _, _, _, _, _, _, _, _, _ => none
  | n + 1, p501, p502, p503, p504, p505, p506, p507, p508, p509, p510 =>
    bif (decide (p504 < p503)) then
      bif ((decide ((0 : Int) ≤ p504)) && (decide (p504 < (p501.length : Int)))) then
      (f_impl_NodeOk_4 (p501.getD p504.toNat 0)).bind fun y511 =>
      bif y511 then
        some (.inl (p504, p505, p506, p507, p508, p509, p510))
      else
        f_impl_NodeOk.l6 n p501 p502 p503 (IntKind.wrap .i64 (p504 + (1 : Int))) p505 p506 p507 p508 p509 p510
      else none
    else
      some (.inr (p502, p505, p506, p507, p508, p509, p510))
noncomputable def f_impl_NodeOk.l5 : Nat → (List (Int × (List (Int × Int × Bool × List Int)))) → Int → Int → Int → Int → (List (Int × List Int × Bool)) → (List (List Int × Int × List Bool × Bool × Int × Bool × Int × (List (Int × Bool)))) → (List (Int × (List (Int × Int × Bool × List Int)))) → (List Int) → Int → Option ((Int × Int × (List (Int × List Int × Bool)) × (List (List Int × Int × List Bool × Bool × Int × Bool × Int × (List (Int × Bool)))) × (List (Int × (List (Int × Int × Bool × List Int)))) × List Int × Int) ⊕ (Int × Int × (List (Int × List Int × Bool)) × (List (List Int × Int × List Bool × Bool × Int × Bool × Int × (List (Int × Bool)))) × (List (Int × (List (Int × Int × Bool × List Int)))) × List Int × Int))
  | 0, _, _, _, _, _, _, _, _, _, _ => none
  | n + 1, p484, p485, p486, p487, p488, p489, p490, p491, p492, p493 =>
    bif (decide (p487 < p486)) then
      bif ((decide ((0 : Int) ≤ p487)) && (decide (p487 < (p484.length : Int)))) then
      (f_impl_NodeOk_3 ((p484.getD p487.toNat (0, [])).1) ((p484.getD p487.toNat (0, [])).2)).bind fun y494 =>
      bif y494 then
        some (.inl (p487, p488, p489, p490, p491, p492, p493))
      else
        f_impl_NodeOk.l5 n p484 p485 p486 (IntKind.wrap .i64 (p487 + (1 : Int))) p488 p489 p490 p491 p492 p493
      else none
    else
      some (.inr (p485, p488, p489, p490, p491, p492, p493))
noncomputable def f_impl_NodeOk.l4 : Nat → (List Int) → Int → Int → Int → Int → (List (Int × List Int × Bool)) → (List (List Int × Int × List Bool × Bool × Int × Bool × Int × (List (Int × Bool)))) → (List (Int × (List (Int × Int × Bool × List Int)))) → (List Int) → Int → Option ((Int × Int × (List (Int × List Int × Bool)) × (List (List Int × Int × List Bool × Bool × Int × Bool × Int × (List (Int × Bool)))) × (List (Int × (List (Int × Int × Bool × List Int)))) × List Int × Int) ⊕ (Int × Int × (List (Int × List Int × Bool)) × (List (List Int × Int × List Bool × Bool × Int × Bool × Int × (List (Int × Bool)))) × (List (Int × (List (Int × Int × Bool × List Int)))) × List Int × Int))
  | 0, _, _, _, _, _, _, _, _, _, _ => none
  | n + 1, p470, p471, p472, p473, p474, p475, p476, p477, p478, p479 =>
    bif (decide (p473 < p472)) then
      bif ((decide ((0 : Int) ≤ p473)) && (decide (p473 < (p470.length : Int)))) then
      (f_impl_NodeOk_4 (p470.getD p473.toNat 0)).bind fun y480 =>
      bif y480 then
        some (.inl (p473, p474, p475, p476, p477, p478, p479))
      else
        f_impl_NodeOk.l4 n p470 p471 p472 (IntKind.wrap .i64 (p473 + (1 : Int))) p474 p475 p476 p477 p478 p479
      else none
    else
      some (.inr (p471, p474, p475, p476, p477, p478, p479))
noncomputable def f_impl_NodeOk.l3 : Nat → (List Int) → Int → Int → Int → Int → (List (Int × List Int × Bool)) → (List (List Int × Int × List Bool × Bool × Int × Bool × Int × (List (Int × Bool)))) → (List (Int × (List (Int × Int × Bool × List Int)))) → (List Int) → Int → Option ((Int × Int × (List (Int × List Int × Bool)) × (List (List Int × Int × List Bool × Bool × Int × Bool × Int × (List (Int × Bool)))) × (List (Int × (List (Int × Int × Bool × List Int)))) × List Int × Int) ⊕ (Int × Int × (List (Int × List Int × Bool)) × (List (List Int × Int × List Bool × Bool × Int × Bool × Int × (List (Int × Bool)))) × (List (Int × (List (Int × Int × Bool × List Int)))) × List Int × Int))
  | 0, _, _, _, _, _, _, _, _, _, _ => none
  | n + 1, p456, p457, p458, p459, p460, p461, p462, p463, p464, p465 =>
    bif (decide (p459 < p458)) then
      bif ((decide ((0 : Int) ≤ p459)) && (decide (p459 < (p456.length : Int)))) then
      (f_impl_NodeOk_4 (p456.getD p459.toNat 0)).bind fun y466 =>
      bif y466 then
        some (.inl (p459, p460, p461, p462, p463, p464, p465))
      else
        f_impl_NodeOk.l3 n p456 p457 p458 (IntKind.wrap .i64 (p459 + (1 : Int))) p460 p461 p462 p463 p464 p465
      else none
    else
      some (.inr (p457, p460, p461, p462, p463, p464, p465))
noncomputable def f_impl_NodeOk.l2 : Nat → (List (Int × (List (Int × Int × Bool × List Int)))) → Int → Int → Int → Int → (List (Int × List Int × Bool)) → (List (List Int × Int × List Bool × Bool × Int × Bool × Int × (List (Int × Bool)))) → (List (Int × (List (Int × Int × Bool × List Int)))) → (List Int) → Int → Option ((Int × Int × (List (Int × List Int × Bool)) × (List (List Int × Int × List Bool × Bool × Int × Bool × Int × (List (Int × Bool)))) × (List (Int × (List (Int × Int × Bool × List Int)))) × List Int × Int) ⊕ (Int × Int × (List (Int × List Int × Bool)) × (List (List Int × Int × List Bool × Bool × Int × Bool × Int × (List (Int × Bool)))) × (List (Int × (List (Int × Int × Bool × List Int)))) × List Int × Int))
  | 0, _, _, _, _, _, _, _, _, _, _ => none
  | n + 1, p442, p443, p444, p445, p446, p447, p448, p449, p450, p451 =>
    bif (decide (p445 < p444)) then
      bif ((decide ((0 : Int) ≤ p445)) && (decide (p445 < (p442.length : Int)))) then
      (f_impl_NodeOk_3 ((p442.getD p445.toNat (0, [])).1) ((p442.getD p445.toNat (0, [])).2)).bind fun y452 =>
      bif y452 then
        some (.inl (p445, p446, p447, p448, p449, p450, p451))
      else
        f_impl_NodeOk.l2 n p442 p443 p444 (IntKind.wrap .i64 (p445 + (1 : Int))) p446 p447 p448 p449 p450 p451
      else none
    else
      some (.inr (p443, p446, p447, p448, p449, p450, p451))
noncomputable def f_impl_NodeOk.l1 : Nat → (List (List Int × Int × List Bool × Bool × Int × Bool × Int × (List (Int × Bool)))) → Int → Int → Int → Int → (List (Int × List Int × Bool)) → (List (List Int × Int × List Bool × Bool × Int × Bool × Int × (List (Int × Bool)))) → (List (Int × (List (Int × Int × Bool × List Int)))) → (List Int) → Int → Option ((Int × Int × (List (Int × List Int × Bool)) × (List (List Int × Int × List Bool × Bool × Int × Bool × Int × (List (Int × Bool)))) × (List (Int × (List (Int × Int × Bool × List Int)))) × List Int × Int) ⊕ (Int × Int × (List (Int × List Int × Bool)) × (List (List Int × Int × List Bool × Bool × Int × Bool × Int × (List (Int × Bool)))) × (List (Int × (List (Int × Int × Bool × List Int)))) × List Int × Int))
  | 0, _, _, _, _, _, _, _, _, _, _ => none
  | n + 1, p428, p429, p430, p431, p432, p433, p434, p435, p436, p437 =>
    bif (decide (p431 < p430)) then
      bif ((decide ((0 : Int) ≤ p431)) && (decide (p431 < (p428.length : Int)))) then
      (f_impl_NodeOk_2 ((p428.getD p431.toNat ([], 0, [], false, 0, false, 0, [])).1) ((p428.getD p431.toNat ([], 0, [], false, 0, false, 0, [])).2.1) ((p428.getD p431.toNat ([], 0, [], false, 0, false, 0, [])).2.2.1) ((p428.getD p431.toNat ([], 0, [], false, 0, false, 0, [])).2.2.2.1) ((p428.getD p431.toNat ([], 0, [], false, 0, false, 0, [])).2.2.2.2.1) ((p428.getD p431.toNat ([], 0, [], false, 0, false, 0, [])).2.2.2.2.2.1) ((p428.getD p431.toNat ([], 0, [], false, 0, false, 0, [])).2.2.2.2.2.2.1) ((p428.getD p431.toNat ([], 0, [], false, 0, false, 0, [])).2.2.2.2.2.2.2) p437).bind fun y438 =>
      bif y438 then
        some (.inl (p431, p432, p433, p434, p435, p436, p437))
      else
        f_impl_NodeOk.l1 n p428 p429 p430 (IntKind.wrap .i64 (p431 + (1 : Int))) p432 p433 p434 p435 p436 p437
      else none
    else
      some (.inr (p429, p432, p433, p434, p435, p436, p437))
noncomputable def f_impl_NodeOk.l0 : Nat → (List (Int × List Int × Bool)) → Int → Int → Int → Int → (List (Int × List Int × Bool)) → (List (List Int × Int × List Bool × Bool × Int × Bool × Int × (List (Int × Bool)))) → (List (Int × (List (Int × Int × Bool × List Int)))) → (List Int) → Int → Option ((Int × Int × (List (Int × List Int × Bool)) × (List (List Int × Int × List Bool × Bool × Int × Bool × Int × (List (Int × Bool)))) × (List (Int × (List (Int × Int × Bool × List Int)))) × List Int × Int) ⊕ (Int × Int × (List (Int × List Int × Bool)) × (List (List Int × Int × List Bool × Bool × Int × Bool × Int × (List (Int × Bool)))) × (List (Int × (List (Int × Int × Bool × List Int)))) × List Int × Int))
  | 0, _, _, _, _, _, _, _, _, _, _ => none
  | n + 1, p414, p415, p416, p417, p418, p419, p420, p421, p422, p423 =>
    bif (decide (p417 < p416)) then
      bif ((decide ((0 : Int) ≤ p417)) && (decide (p417 < (p414.length : Int)))) then
      (f_impl_NodeOk_1 ((p414.getD p417.toNat (0, [], false)).1) ((p414.getD p417.toNat (0, [], false)).2.1) ((p414.getD p417.toNat (0, [], false)).2.2)).bind fun y424 =>
      bif y424 then
        some (.inl (p417, p418, p419, p420, p421, p422, p423))
      else
        f_impl_NodeOk.l0 n p414 p415 p416 (IntKind.wrap .i64 (p417 + (1 : Int))) p418 p419 p420 p421 p422 p423
      else none
    else
      some (.inr (p415, p418, p419, p420, p421, p422, p423))
noncomputable def f_impl_NodeOk (x0 : Int) (x1 : List (Int × List Int × Bool)) (x2 : List (List Int × Int × List Bool × Bool × Int × Bool × Int × (List (Int × Bool)))) (x3 : List (Int × (List (Int × Int × Bool × List Int)))) (x4 : List Int) (x5 : Int) : Option (Bool) :=
  (f_impl_isOf x0 x5).bind fun y413 =>
  bif y413 then
    bif (decide ((x1.length : Int) = (6 : Int))) then
      bif (decide ((x2.length : Int) = (6 : Int))) then
        bif (decide ((x3.length : Int) = x5)) then
          bif (decide ((x4.length : Int) = x5)) then
            (f_impl_NodeOk.l0 N x1 0 (x1.length : Int) 0 x0 x1 x2 x3 x4 x5).bind fun r425 =>
            cs r425 (fun a426 =>
              bif (!(decide ((0 : Int) ≤ a426.1))) then
                (f_impl_NodeOk.l1 N a426.2.2.2.1 0 (a426.2.2.2.1.length : Int) 0 a426.2.1 a426.2.2.1 a426.2.2.2.1 a426.2.2.2.2.1 a426.2.2.2.2.2.1 a426.2.2.2.2.2.2).bind fun r439 =>
                cs r439 (fun a440 =>
                  bif (!(decide ((0 : Int) ≤ a440.1))) then
                    (f_impl_NodeOk.l2 N a440.2.2.2.2.1 0 (a440.2.2.2.2.1.length : Int) 0 a440.2.1 a440.2.2.1 a440.2.2.2.1 a440.2.2.2.2.1 a440.2.2.2.2.2.1 a440.2.2.2.2.2.2).bind fun r453 =>
                    cs r453 (fun a454 =>
                      bif (!(decide ((0 : Int) ≤ a454.1))) then
                        (f_impl_NodeOk.l3 N a454.2.2.2.2.2.1 0 (a454.2.2.2.2.2.1.length : Int) 0 a454.2.1 a454.2.2.1 a454.2.2.2.1 a454.2.2.2.2.1 a454.2.2.2.2.2.1 a454.2.2.2.2.2.2).bind fun r467 =>
                        cs r467 (fun a468 =>
                          some (!(decide ((0 : Int) ≤ a468.1)))) (fun b469 =>
                          some true)
                      else
                        some false) (fun b455 =>
                      (f_impl_NodeOk.l4 N b455.2.2.2.2.2.1 0 (b455.2.2.2.2.2.1.length : Int) 0 b455.2.1 b455.2.2.1 b455.2.2.2.1 b455.2.2.2.2.1 b455.2.2.2.2.2.1 b455.2.2.2.2.2.2).bind fun r481 =>
                      cs r481 (fun a482 =>
                        some (!(decide ((0 : Int) ≤ a482.1)))) (fun b483 =>
                        some true))
                  else
                    some false) (fun b441 =>
                  (f_impl_NodeOk.l5 N b441.2.2.2.2.1 0 (b441.2.2.2.2.1.length : Int) 0 b441.2.1 b441.2.2.1 b441.2.2.2.1 b441.2.2.2.2.1 b441.2.2.2.2.2.1 b441.2.2.2.2.2.2).bind fun r495 =>
                  cs r495 (fun a496 =>
                    bif (!(decide ((0 : Int) ≤ a496.1))) then
                      (f_impl_NodeOk.l4 N a496.2.2.2.2.2.1 0 (a496.2.2.2.2.2.1.length : Int) 0 a496.2.1 a496.2.2.1 a496.2.2.2.1 a496.2.2.2.2.1 a496.2.2.2.2.2.1 a496.2.2.2.2.2.2).bind fun r498 =>
                      cs r498 (fun a499 =>
                        some (!(decide ((0 : Int) ≤ a499.1)))) (fun b500 =>
                        some true)
                    else
                      some false) (fun b497 =>
                    (f_impl_NodeOk.l6 N b497.2.2.2.2.2.1 0 (b497.2.2.2.2.2.1.length : Int) 0 b497.2.1 b497.2.2.1 b497.2.2.2.1 b497.2.2.2.2.1 b497.2.2.2.2.2.1 b497.2.2.2.2.2.2).bind fun r512 =>
                    cs r512 (fun a513 =>
                      some (!(decide ((0 : Int) ≤ a513.1)))) (fun b514 =>
                      some true)))
              else
                some false) (fun b427 =>
              (f_impl_NodeOk.l7 N b427.2.2.2.1 0 (b427.2.2.2.1.length : Int) 0 b427.2.1 b427.2.2.1 b427.2.2.2.1 b427.2.2.2.2.1 b427.2.2.2.2.2.1 b427.2.2.2.2.2.2).bind fun r526 =>
              cs r526 (fun a527 =>
                bif (!(decide ((0 : Int) ≤ a527.1))) then
                  (f_impl_NodeOk.l5 N a527.2.2.2.2.1 0 (a527.2.2.2.2.1.length : Int) 0 a527.2.1 a527.2.2.1 a527.2.2.2.1 a527.2.2.2.2.1 a527.2.2.2.2.2.1 a527.2.2.2.2.2.2).bind fun r529 =>
                  cs r529 (fun a530 =>
                    bif (!(decide ((0 : Int) ≤ a530.1))) then
                      (f_impl_NodeOk.l4 N a530.2.2.2.2.2.1 0 (a530.2.2.2.2.2.1.length : Int) 0 a530.2.1 a530.2.2.1 a530.2.2.2.1 a530.2.2.2.2.1 a530.2.2.2.2.2.1 a530.2.2.2.2.2.2).bind fun r532 =>
                      cs r532 (fun a533 =>
                        some (!(decide ((0 : Int) ≤ a533.1)))) (fun b534 =>
                        some true)
                    else
                      some false) (fun b531 =>
                    (f_impl_NodeOk.l6 N b531.2.2.2.2.2.1 0 (b531.2.2.2.2.2.1.length : Int) 0 b531.2.1 b531.2.2.1 b531.2.2.2.1 b531.2.2.2.2.1 b531.2.2.2.2.2.1 b531.2.2.2.2.2.2).bind fun r535 =>
                    cs r535 (fun a536 =>
                      some (!(decide ((0 : Int) ≤ a536.1)))) (fun b537 =>
                      some true))
                else
                  some false) (fun b528 =>
                (f_impl_NodeOk.l8 N b528.2.2.2.2.1 0 (b528.2.2.2.2.1.length : Int) 0 b528.2.1 b528.2.2.1 b528.2.2.2.1 b528.2.2.2.2.1 b528.2.2.2.2.2.1 b528.2.2.2.2.2.2).bind fun r549 =>
                cs r549 (fun a550 =>
                  bif (!(decide ((0 : Int) ≤ a550.1))) then
                    (f_impl_NodeOk.l6 N a550.2.2.2.2.2.1 0 (a550.2.2.2.2.2.1.length : Int) 0 a550.2.1 a550.2.2.1 a550.2.2.2.1 a550.2.2.2.2.1 a550.2.2.2.2.2.1 a550.2.2.2.2.2.2).bind fun r552 =>
                    cs r552 (fun a553 =>
                      some (!(decide ((0 : Int) ≤ a553.1)))) (fun b554 =>
                      some true)
                  else
                    some false) (fun b551 =>
                  (f_impl_NodeOk.l9 N b551.2.2.2.2.2.1 0 (b551.2.2.2.2.2.1.length : Int) 0 b551.2.1 b551.2.2.1 b551.2.2.2.1 b551.2.2.2.2.1 b551.2.2.2.2.2.1 b551.2.2.2.2.2.2).bind fun r566 =>
                  cs r566 (fun a567 =>
                    some (!(decide ((0 : Int) ≤ a567.1)))) (fun b568 =>
                    some true))))
          else
            some false
        else
          some false
      else
        some false
    else
      some false
  else
    some false
noncomputable def C47 : Con := ⟨[(.B, true, [(.int .i64), (.sl R1), (.sl R4), (.sl R6), (.sl R0)]), (.B, false, [(.int .i64)])], [(false, [.bool])], [(.int .i64), (.sl R1), (.sl R4), (.sl R6), (.sl R0), (.int .i64)], [.bool], fun (p : Int × (List (Int × List Int × Bool)) × (List (List Int × Int × List Bool × Bool × Int × Bool × Int × (List (Int × Bool)))) × (List (Int × (List (Int × Int × Bool × List Int)))) × List Int × Int) => f_impl_NodeOk p.1 p.2.1 p.2.2.1 p.2.2.2.1 p.2.2.2.2.1 p.2.2.2.2.2⟩
noncomputable def f_impl_NodeOk.l0.c : LoopCon := ⟨2046, 4, [0, 1, 4, 7, 8], ⟨[(0, .bor none R1 []), (1, .func 119 []), (4, .int .i64 0), (7, .int .i64 0), (8, .int .i64 0)], [(1006, .box [.int .i64 0, .bor (some 1) R1 [], .bor (some 2) R4 [], .bor (some 3) R6 [], .bor (some 4) R0 []]), (1022, .box [.int .i64 0])], 2046⟩, [(.sl R1), (.int .i64), (.int .i64), (.int .i64), (.int .i64), (.sl R1), (.sl R4), (.sl R6), (.sl R0), (.int .i64)], [⟨.ret, [4], ⟨[(4, .int .i64 0)], [(1006, .box [.int .i64 0, .bor (some 1) R1 [], .bor (some 2) R4 [], .bor (some 3) R6 [], .bor (some 4) R0 []]), (1022, .box [.int .i64 0])], 2046⟩, [(.int .i64), (.int .i64), (.sl R1), (.sl R4), (.sl R6), (.sl R0), (.int .i64)]⟩, ⟨.exit 0, [4], ⟨[(4, .int .i64 0)], [(1006, .box [.int .i64 0, .bor (some 1) R1 [], .bor (some 2) R4 [], .bor (some 3) R6 [], .bor (some 4) R0 []]), (1022, .box [.int .i64 0])], 2046⟩, [(.int .i64), (.int .i64), (.sl R1), (.sl R4), (.sl R6), (.sl R0), (.int .i64)]⟩], fun (p : (List (Int × List Int × Bool)) × Int × Int × Int × Int × (List (Int × List Int × Bool)) × (List (List Int × Int × List Bool × Bool × Int × Bool × Int × (List (Int × Bool)))) × (List (Int × (List (Int × Int × Bool × List Int)))) × List Int × Int) => f_impl_NodeOk.l0 N p.1 p.2.1 p.2.2.1 p.2.2.2.1 p.2.2.2.2.1 p.2.2.2.2.2.1 p.2.2.2.2.2.2.1 p.2.2.2.2.2.2.2.1 p.2.2.2.2.2.2.2.2.1 p.2.2.2.2.2.2.2.2.2⟩
noncomputable def f_impl_NodeOk.l1.c : LoopCon := ⟨2142, 4, [0, 1, 4, 7, 8], ⟨[(0, .bor none R4 []), (1, .func 122 [.ptr 1022 0]), (4, .int .i64 0), (7, .int .i64 0), (8, .int .i64 0)], [(1006, .box [.int .i64 0, .bor (some 1) R1 [], .bor (some 2) R4 [], .bor (some 3) R6 [], .bor (some 4) R0 []]), (1022, .box [.int .i64 0])], 2142⟩, [(.sl R4), (.int .i64), (.int .i64), (.int .i64), (.int .i64), (.sl R1), (.sl R4), (.sl R6), (.sl R0), (.int .i64)], [⟨.ret, [4], ⟨[(4, .int .i64 0)], [(1006, .box [.int .i64 0, .bor (some 1) R1 [], .bor (some 2) R4 [], .bor (some 3) R6 [], .bor (some 4) R0 []]), (1022, .box [.int .i64 0])], 2142⟩, [(.int .i64), (.int .i64), (.sl R1), (.sl R4), (.sl R6), (.sl R0), (.int .i64)]⟩, ⟨.exit 0, [4], ⟨[(4, .int .i64 0)], [(1006, .box [.int .i64 0, .bor (some 1) R1 [], .bor (some 2) R4 [], .bor (some 3) R6 [], .bor (some 4) R0 []]), (1022, .box [.int .i64 0])], 2142⟩, [(.int .i64), (.int .i64), (.sl R1), (.sl R4), (.sl R6), (.sl R0), (.int .i64)]⟩], fun (p : (List (List Int × Int × List Bool × Bool × Int × Bool × Int × (List (Int × Bool)))) × Int × Int × Int × Int × (List (Int × List Int × Bool)) × (List (List Int × Int × List Bool × Bool × Int × Bool × Int × (List (Int × Bool)))) × (List (Int × (List (Int × Int × Bool × List Int)))) × List Int × Int) => f_impl_NodeOk.l1 N p.1 p.2.1 p.2.2.1 p.2.2.2.1 p.2.2.2.2.1 p.2.2.2.2.2.1 p.2.2.2.2.2.2.1 p.2.2.2.2.2.2.2.1 p.2.2.2.2.2.2.2.2.1 p.2.2.2.2.2.2.2.2.2⟩
noncomputable def f_impl_NodeOk.l2.c : LoopCon := ⟨2238, 4, [0, 1, 4, 7, 8], ⟨[(0, .bor none R6 []), (1, .func 125 []), (4, .int .i64 0), (7, .int .i64 0), (8, .int .i64 0)], [(1006, .box [.int .i64 0, .bor (some 1) R1 [], .bor (some 2) R4 [], .bor (some 3) R6 [], .bor (some 4) R0 []]), (1022, .box [.int .i64 0])], 2238⟩, [(.sl R6), (.int .i64), (.int .i64), (.int .i64), (.int .i64), (.sl R1), (.sl R4), (.sl R6), (.sl R0), (.int .i64)], [⟨.ret, [4], ⟨[(4, .int .i64 0)], [(1006, .box [.int .i64 0, .bor (some 1) R1 [], .bor (some 2) R4 [], .bor (some 3) R6 [], .bor (some 4) R0 []]), (1022, .box [.int .i64 0])], 2238⟩, [(.int .i64), (.int .i64), (.sl R1), (.sl R4), (.sl R6), (.sl R0), (.int .i64)]⟩, ⟨.exit 0, [4], ⟨[(4, .int .i64 0)], [(1006, .box [.int .i64 0, .bor (some 1) R1 [], .bor (some 2) R4 [], .bor (some 3) R6 [], .bor (some 4) R0 []]), (1022, .box [.int .i64 0])], 2238⟩, [(.int .i64), (.int .i64), (.sl R1), (.sl R4), (.sl R6), (.sl R0), (.int .i64)]⟩], fun (p : (List (Int × (List (Int × Int × Bool × List Int)))) × Int × Int × Int × Int × (List (Int × List Int × Bool)) × (List (List Int × Int × List Bool × Bool × Int × Bool × Int × (List (Int × Bool)))) × (List (Int × (List (Int × Int × Bool × List Int)))) × List Int × Int) => f_impl_NodeOk.l2 N p.1 p.2.1 p.2.2.1 p.2.2.2.1 p.2.2.2.2.1 p.2.2.2.2.2.1 p.2.2.2.2.2.2.1 p.2.2.2.2.2.2.2.1 p.2.2.2.2.2.2.2.2.1 p.2.2.2.2.2.2.2.2.2⟩
noncomputable def f_impl_NodeOk.l3.c : LoopCon := ⟨2334, 4, [0, 1, 4, 7, 8], ⟨[(0, .bor none R0 []), (1, .func 128 []), (4, .int .i64 0), (7, .int .i64 0), (8, .int .i64 0)], [(1006, .box [.int .i64 0, .bor (some 1) R1 [], .bor (some 2) R4 [], .bor (some 3) R6 [], .bor (some 4) R0 []]), (1022, .box [.int .i64 0])], 2334⟩, [(.sl R0), (.int .i64), (.int .i64), (.int .i64), (.int .i64), (.sl R1), (.sl R4), (.sl R6), (.sl R0), (.int .i64)], [⟨.ret, [4], ⟨[(4, .int .i64 0)], [(1006, .box [.int .i64 0, .bor (some 1) R1 [], .bor (some 2) R4 [], .bor (some 3) R6 [], .bor (some 4) R0 []]), (1022, .box [.int .i64 0])], 2334⟩, [(.int .i64), (.int .i64), (.sl R1), (.sl R4), (.sl R6), (.sl R0), (.int .i64)]⟩, ⟨.exit 0, [4], ⟨[(4, .int .i64 0)], [(1006, .box [.int .i64 0, .bor (some 1) R1 [], .bor (some 2) R4 [], .bor (some 3) R6 [], .bor (some 4) R0 []]), (1022, .box [.int .i64 0])], 2334⟩, [(.int .i64), (.int .i64), (.sl R1), (.sl R4), (.sl R6), (.sl R0), (.int .i64)]⟩], fun (p : List Int × Int × Int × Int × Int × (List (Int × List Int × Bool)) × (List (List Int × Int × List Bool × Bool × Int × Bool × Int × (List (Int × Bool)))) × (List (Int × (List (Int × Int × Bool × List Int)))) × List Int × Int) => f_impl_NodeOk.l3 N p.1 p.2.1 p.2.2.1 p.2.2.2.1 p.2.2.2.2.1 p.2.2.2.2.2.1 p.2.2.2.2.2.2.1 p.2.2.2.2.2.2.2.1 p.2.2.2.2.2.2.2.2.1 p.2.2.2.2.2.2.2.2.2⟩
noncomputable def f_impl_NodeOk.l4.c : LoopCon := ⟨2350, 4, [0, 1, 4, 7, 8], ⟨[(0, .bor none R0 []), (1, .func 128 []), (4, .int .i64 0), (7, .int .i64 0), (8, .int .i64 0)], [(1006, .box [.int .i64 0, .bor (some 1) R1 [], .bor (some 2) R4 [], .bor (some 3) R6 [], .bor (some 4) R0 []]), (1022, .box [.int .i64 0])], 2350⟩, [(.sl R0), (.int .i64), (.int .i64), (.int .i64), (.int .i64), (.sl R1), (.sl R4), (.sl R6), (.sl R0), (.int .i64)], [⟨.ret, [4], ⟨[(4, .int .i64 0)], [(1006, .box [.int .i64 0, .bor (some 1) R1 [], .bor (some 2) R4 [], .bor (some 3) R6 [], .bor (some 4) R0 []]), (1022, .box [.int .i64 0])], 2350⟩, [(.int .i64), (.int .i64), (.sl R1), (.sl R4), (.sl R6), (.sl R0), (.int .i64)]⟩, ⟨.exit 0, [4], ⟨[(4, .int .i64 0)], [(1006, .box [.int .i64 0, .bor (some 1) R1 [], .bor (some 2) R4 [], .bor (some 3) R6 [], .bor (some 4) R0 []]), (1022, .box [.int .i64 0])], 2350⟩, [(.int .i64), (.int .i64), (.sl R1), (.sl R4), (.sl R6), (.sl R0), (.int .i64)]⟩], fun (p : List Int × Int × Int × Int × Int × (List (Int × List Int × Bool)) × (List (List Int × Int × List Bool × Bool × Int × Bool × Int × (List (Int × Bool)))) × (List (Int × (List (Int × Int × Bool × List Int)))) × List Int × Int) => f_impl_NodeOk.l4 N p.1 p.2.1 p.2.2.1 p.2.2.2.1 p.2.2.2.2.1 p.2.2.2.2.2.1 p.2.2.2.2.2.2.1 p.2.2.2.2.2.2.2.1 p.2.2.2.2.2.2.2.2.1 p.2.2.2.2.2.2.2.2.2⟩
noncomputable def f_impl_NodeOk.l5.c : LoopCon := ⟨2254, 4, [0, 1, 4, 7, 8], ⟨[(0, .bor none R6 []), (1, .func 125 []), (4, .int .i64 0), (7, .int .i64 0), (8, .int .i64 0)], [(1006, .box [.int .i64 0, .bor (some 1) R1 [], .bor (some 2) R4 [], .bor (some 3) R6 [], .bor (some 4) R0 []]), (1022, .box [.int .i64 0])], 2254⟩, [(.sl R6), (.int .i64), (.int .i64), (.int .i64), (.int .i64), (.sl R1), (.sl R4), (.sl R6), (.sl R0), (.int .i64)], [⟨.ret, [4], ⟨[(4, .int .i64 0)], [(1006, .box [.int .i64 0, .bor (some 1) R1 [], .bor (some 2) R4 [], .bor (some 3) R6 [], .bor (some 4) R0 []]), (1022, .box [.int .i64 0])], 2254⟩, [(.int .i64), (.int .i64), (.sl R1), (.sl R4), (.sl R6), (.sl R0), (.int .i64)]⟩, ⟨.exit 0, [4], ⟨[(4, .int .i64 0)], [(1006, .box [.int .i64 0, .bor (some 1) R1 [], .bor (some 2) R4 [], .bor (some 3) R6 [], .bor (some 4) R0 []]), (1022, .box [.int .i64 0])], 2254⟩, [(.int .i64), (.int .i64), (.sl R1), (.sl R4), (.sl R6), (.sl R0), (.int .i64)]⟩], fun (p : (List (Int × (List (Int × Int × Bool × List Int)))) × Int × Int × Int × Int × (List (Int × List Int × Bool)) × (List (List Int × Int × List Bool × Bool × Int × Bool × Int × (List (Int × Bool)))) × (List (Int × (List (Int × Int × Bool × List Int)))) × List Int × Int) => f_impl_NodeOk.l5 N p.1 p.2.1 p.2.2.1 p.2.2.2.1 p.2.2.2.2.1 p.2.2.2.2.2.1 p.2.2.2.2.2.2.1 p.2.2.2.2.2.2.2.1 p.2.2.2.2.2.2.2.2.1 p.2.2.2.2.2.2.2.2.2⟩
noncomputable def f_impl_NodeOk.l6.c : LoopCon := ⟨2366, 4, [0, 1, 4, 7, 8], ⟨[(0, .bor none R0 []), (1, .func 128 []), (4, .int .i64 0), (7, .int .i64 0), (8, .int .i64 0)], [(1006, .box [.int .i64 0, .bor (some 1) R1 [], .bor (some 2) R4 [], .bor (some 3) R6 [], .bor (some 4) R0 []]), (1022, .box [.int .i64 0])], 2366⟩, [(.sl R0), (.int .i64), (.int .i64), (.int .i64), (.int .i64), (.sl R1), (.sl R4), (.sl R6), (.sl R0), (.int .i64)], [⟨.ret, [4], ⟨[(4, .int .i64 0)], [(1006, .box [.int .i64 0, .bor (some 1) R1 [], .bor (some 2) R4 [], .bor (some 3) R6 [], .bor (some 4) R0 []]), (1022, .box [.int .i64 0])], 2366⟩, [(.int .i64), (.int .i64), (.sl R1), (.sl R4), (.sl R6), (.sl R0), (.int .i64)]⟩, ⟨.exit 0, [4], ⟨[(4, .int .i64 0)], [(1006, .box [.int .i64 0, .bor (some 1) R1 [], .bor (some 2) R4 [], .bor (some 3) R6 [], .bor (some 4) R0 []]), (1022, .box [.int .i64 0])], 2366⟩, [(.int .i64), (.int .i64), (.sl R1), (.sl R4), (.sl R6), (.sl R0), (.int .i64)]⟩], fun (p : List Int × Int × Int × Int × Int × (List (Int × List Int × Bool)) × (List (List Int × Int × List Bool × Bool × Int × Bool × Int × (List (Int × Bool)))) × (List (Int × (List (Int × Int × Bool × List Int)))) × List Int × Int) => f_impl_NodeOk.l6 N p.1 p.2.1 p.2.2.1 p.2.2.2.1 p.2.2.2.2.1 p.2.2.2.2.2.1 p.2.2.2.2.2.2.1 p.2.2.2.2.2.2.2.1 p.2.2.2.2.2.2.2.2.1 p.2.2.2.2.2.2.2.2.2⟩
noncomputable def f_impl_NodeOk.l7.c : LoopCon := ⟨2158, 4, [0, 1, 4, 7, 8], ⟨[(0, .bor none R4 []), (1, .func 122 [.ptr 1022 0]), (4, .int .i64 0), (7, .int .i64 0), (8, .int .i64 0)], [(1006, .box [.int .i64 0, .bor (some 1) R1 [], .bor (some 2) R4 [], .bor (some 3) R6 [], .bor (some 4) R0 []]), (1022, .box [.int .i64 0])], 2158⟩, [(.sl R4), (.int .i64), (.int .i64), (.int .i64), (.int .i64), (.sl R1), (.sl R4), (.sl R6), (.sl R0), (.int .i64)], [⟨.ret, [4], ⟨[(4, .int .i64 0)], [(1006, .box [.int .i64 0, .bor (some 1) R1 [], .bor (some 2) R4 [], .bor (some 3) R6 [], .bor (some 4) R0 []]), (1022, .box [.int .i64 0])], 2158⟩, [(.int .i64), (.int .i64), (.sl R1), (.sl R4), (.sl R6), (.sl R0), (.int .i64)]⟩, ⟨.exit 0, [4], ⟨[(4, .int .i64 0)], [(1006, .box [.int .i64 0, .bor (some 1) R1 [], .bor (some 2) R4 [], .bor (some 3) R6 [], .bor (some 4) R0 []]), (1022, .box [.int .i64 0])], 2158⟩, [(.int .i64), (.int .i64), (.sl R1), (.sl R4), (.sl R6), (.sl R0), (.int .i64)]⟩], fun (p : (List (List Int × Int × List Bool × Bool × Int × Bool × Int × (List (Int × Bool)))) × Int × Int × Int × Int × (List (Int × List Int × Bool)) × (List (List Int × Int × List Bool × Bool × Int × Bool × Int × (List (Int × Bool)))) × (List (Int × (List (Int × Int × Bool × List Int)))) × List Int × Int) => f_impl_NodeOk.l7 N p.1 p.2.1 p.2.2.1 p.2.2.2.1 p.2.2.2.2.1 p.2.2.2.2.2.1 p.2.2.2.2.2.2.1 p.2.2.2.2.2.2.2.1 p.2.2.2.2.2.2.2.2.1 p.2.2.2.2.2.2.2.2.2⟩
noncomputable def f_impl_NodeOk.l8.c : LoopCon := ⟨2270, 4, [0, 1, 4, 7, 8], ⟨[(0, .bor none R6 []), (1, .func 125 []), (4, .int .i64 0), (7, .int .i64 0), (8, .int .i64 0)], [(1006, .box [.int .i64 0, .bor (some 1) R1 [], .bor (some 2) R4 [], .bor (some 3) R6 [], .bor (some 4) R0 []]), (1022, .box [.int .i64 0])], 2270⟩, [(.sl R6), (.int .i64), (.int .i64), (.int .i64), (.int .i64), (.sl R1), (.sl R4), (.sl R6), (.sl R0), (.int .i64)], [⟨.ret, [4], ⟨[(4, .int .i64 0)], [(1006, .box [.int .i64 0, .bor (some 1) R1 [], .bor (some 2) R4 [], .bor (some 3) R6 [], .bor (some 4) R0 []]), (1022, .box [.int .i64 0])], 2270⟩, [(.int .i64), (.int .i64), (.sl R1), (.sl R4), (.sl R6), (.sl R0), (.int .i64)]⟩, ⟨.exit 0, [4], ⟨[(4, .int .i64 0)], [(1006, .box [.int .i64 0, .bor (some 1) R1 [], .bor (some 2) R4 [], .bor (some 3) R6 [], .bor (some 4) R0 []]), (1022, .box [.int .i64 0])], 2270⟩, [(.int .i64), (.int .i64), (.sl R1), (.sl R4), (.sl R6), (.sl R0), (.int .i64)]⟩], fun (p : (List (Int × (List (Int × Int × Bool × List Int)))) × Int × Int × Int × Int × (List (Int × List Int × Bool)) × (List (List Int × Int × List Bool × Bool × Int × Bool × Int × (List (Int × Bool)))) × (List (Int × (List (Int × Int × Bool × List Int)))) × List Int × Int) => f_impl_NodeOk.l8 N p.1 p.2.1 p.2.2.1 p.2.2.2.1 p.2.2.2.2.1 p.2.2.2.2.2.1 p.2.2.2.2.2.2.1 p.2.2.2.2.2.2.2.1 p.2.2.2.2.2.2.2.2.1 p.2.2.2.2.2.2.2.2.2⟩
noncomputable def f_impl_NodeOk.l9.c : LoopCon := ⟨2382, 4, [0, 1, 4, 7, 8], ⟨[(0, .bor none R0 []), (1, .func 128 []), (4, .int .i64 0), (7, .int .i64 0), (8, .int .i64 0)], [(1006, .box [.int .i64 0, .bor (some 1) R1 [], .bor (some 2) R4 [], .bor (some 3) R6 [], .bor (some 4) R0 []]), (1022, .box [.int .i64 0])], 2382⟩, [(.sl R0), (.int .i64), (.int .i64), (.int .i64), (.int .i64), (.sl R1), (.sl R4), (.sl R6), (.sl R0), (.int .i64)], [⟨.ret, [4], ⟨[(4, .int .i64 0)], [(1006, .box [.int .i64 0, .bor (some 1) R1 [], .bor (some 2) R4 [], .bor (some 3) R6 [], .bor (some 4) R0 []]), (1022, .box [.int .i64 0])], 2382⟩, [(.int .i64), (.int .i64), (.sl R1), (.sl R4), (.sl R6), (.sl R0), (.int .i64)]⟩, ⟨.exit 0, [4], ⟨[(4, .int .i64 0)], [(1006, .box [.int .i64 0, .bor (some 1) R1 [], .bor (some 2) R4 [], .bor (some 3) R6 [], .bor (some 4) R0 []]), (1022, .box [.int .i64 0])], 2382⟩, [(.int .i64), (.int .i64), (.sl R1), (.sl R4), (.sl R6), (.sl R0), (.int .i64)]⟩], fun (p : List Int × Int × Int × Int × Int × (List (Int × List Int × Bool)) × (List (List Int × Int × List Bool × Bool × Int × Bool × Int × (List (Int × Bool)))) × (List (Int × (List (Int × Int × Bool × List Int)))) × List Int × Int) => f_impl_NodeOk.l9 N p.1 p.2.1 p.2.2.1 p.2.2.2.1 p.2.2.2.2.1 p.2.2.2.2.2.1 p.2.2.2.2.2.2.1 p.2.2.2.2.2.2.2.1 p.2.2.2.2.2.2.2.2.1 p.2.2.2.2.2.2.2.2.2⟩
noncomputable abbrev K47 : Cons := [(100, C100), (119, C119), (122, C122), (125, C125), (128, C128)]
noncomputable abbrev L47 : List (Nat × Loops) := [(185, [(2, f_impl_NodeOk.l0.c)]), (186, [(2, f_impl_NodeOk.l1.c), (2, f_impl_NodeOk.l7.c)]), (189, [(2, f_impl_NodeOk.l2.c), (2, f_impl_NodeOk.l5.c), (2, f_impl_NodeOk.l8.c)]), (192, [(2, f_impl_NodeOk.l3.c), (2, f_impl_NodeOk.l4.c), (2, f_impl_NodeOk.l6.c), (2, f_impl_NodeOk.l9.c)])]
abbrev Q47 : List (Nat × List (Int × Nat) × Nat) := []
noncomputable abbrev X47 : Nat → Ctx := ctxOf tb K47 L47 Q47
theorem f_impl_NodeOk.l0.ok : ∀ n p, (fun (p : (List (Int × List Int × Bool)) × Int × Int × Int × Int × (List (Int × List Int × Bool)) × (List (List Int × Int × List Bool × Bool × Int × Bool × Int × (List (Int × Bool)))) × (List (Int × (List (Int × Int × Bool × List Int)))) × List Int × Int) => f_impl_NodeOk.l0 n p.1 p.2.1 p.2.2.1 p.2.2.2.1 p.2.2.2.2.1 p.2.2.2.2.2.1 p.2.2.2.2.2.2.1 p.2.2.2.2.2.2.2.1 p.2.2.2.2.2.2.2.2.1 p.2.2.2.2.2.2.2.2.2) p = iterD (roundOf fs X47 4 185 2 true f_impl_NodeOk.l0.c) n p :=
  iter_of (l := fun n => fun (p : (List (Int × List Int × Bool)) × Int × Int × Int × Int × (List (Int × List Int × Bool)) × (List (List Int × Int × List Bool × Bool × Int × Bool × Int × (List (Int × Bool)))) × (List (Int × (List (Int × Int × Bool × List Int)))) × List Int × Int) => f_impl_NodeOk.l0 n p.1 p.2.1 p.2.2.1 p.2.2.2.1 p.2.2.2.2.1 p.2.2.2.2.2.1 p.2.2.2.2.2.2.1 p.2.2.2.2.2.2.2.1 p.2.2.2.2.2.2.2.2.1 p.2.2.2.2.2.2.2.2.2) (fun _ => rfl) (fun n p => by kernel_rfl)
theorem f_impl_NodeOk.l1.ok : ∀ n p, (fun (p : (List (List Int × Int × List Bool × Bool × Int × Bool × Int × (List (Int × Bool)))) × Int × Int × Int × Int × (List (Int × List Int × Bool)) × (List (List Int × Int × List Bool × Bool × Int × Bool × Int × (List (Int × Bool)))) × (List (Int × (List (Int × Int × Bool × List Int)))) × List Int × Int) => f_impl_NodeOk.l1 n p.1 p.2.1 p.2.2.1 p.2.2.2.1 p.2.2.2.2.1 p.2.2.2.2.2.1 p.2.2.2.2.2.2.1 p.2.2.2.2.2.2.2.1 p.2.2.2.2.2.2.2.2.1 p.2.2.2.2.2.2.2.2.2) p = iterD (roundOf fs X47 4 186 2 true f_impl_NodeOk.l1.c) n p :=
  iter_of (l := fun n => fun (p : (List (List Int × Int × List Bool × Bool × Int × Bool × Int × (List (Int × Bool)))) × Int × Int × Int × Int × (List (Int × List Int × Bool)) × (List (List Int × Int × List Bool × Bool × Int × Bool × Int × (List (Int × Bool)))) × (List (Int × (List (Int × Int × Bool × List Int)))) × List Int × Int) => f_impl_NodeOk.l1 n p.1 p.2.1 p.2.2.1 p.2.2.2.1 p.2.2.2.2.1 p.2.2.2.2.2.1 p.2.2.2.2.2.2.1 p.2.2.2.2.2.2.2.1 p.2.2.2.2.2.2.2.2.1 p.2.2.2.2.2.2.2.2.2) (fun _ => rfl) (fun n p => by kernel_rfl)
theorem f_impl_NodeOk.l2.ok : ∀ n p, (fun (p : (List (Int × (List (Int × Int × Bool × List Int)))) × Int × Int × Int × Int × (List (Int × List Int × Bool)) × (List (List Int × Int × List Bool × Bool × Int × Bool × Int × (List (Int × Bool)))) × (List (Int × (List (Int × Int × Bool × List Int)))) × List Int × Int) => f_impl_NodeOk.l2 n p.1 p.2.1 p.2.2.1 p.2.2.2.1 p.2.2.2.2.1 p.2.2.2.2.2.1 p.2.2.2.2.2.2.1 p.2.2.2.2.2.2.2.1 p.2.2.2.2.2.2.2.2.1 p.2.2.2.2.2.2.2.2.2) p = iterD (roundOf fs X47 4 189 2 true f_impl_NodeOk.l2.c) n p :=
  iter_of (l := fun n => fun (p : (List (Int × (List (Int × Int × Bool × List Int)))) × Int × Int × Int × Int × (List (Int × List Int × Bool)) × (List (List Int × Int × List Bool × Bool × Int × Bool × Int × (List (Int × Bool)))) × (List (Int × (List (Int × Int × Bool × List Int)))) × List Int × Int) => f_impl_NodeOk.l2 n p.1 p.2.1 p.2.2.1 p.2.2.2.1 p.2.2.2.2.1 p.2.2.2.2.2.1 p.2.2.2.2.2.2.1 p.2.2.2.2.2.2.2.1 p.2.2.2.2.2.2.2.2.1 p.2.2.2.2.2.2.2.2.2) (fun _ => rfl) (fun n p => by kernel_rfl)
theorem f_impl_NodeOk.l3.ok : ∀ n p, (fun (p : List Int × Int × Int × Int × Int × (List (Int × List Int × Bool)) × (List (List Int × Int × List Bool × Bool × Int × Bool × Int × (List (Int × Bool)))) × (List (Int × (List (Int × Int × Bool × List Int)))) × List Int × Int) => f_impl_NodeOk.l3 n p.1 p.2.1 p.2.2.1 p.2.2.2.1 p.2.2.2.2.1 p.2.2.2.2.2.1 p.2.2.2.2.2.2.1 p.2.2.2.2.2.2.2.1 p.2.2.2.2.2.2.2.2.1 p.2.2.2.2.2.2.2.2.2) p = iterD (roundOf fs X47 4 192 2 true f_impl_NodeOk.l3.c) n p :=
  iter_of (l := fun n => fun (p : List Int × Int × Int × Int × Int × (List (Int × List Int × Bool)) × (List (List Int × Int × List Bool × Bool × Int × Bool × Int × (List (Int × Bool)))) × (List (Int × (List (Int × Int × Bool × List Int)))) × List Int × Int) => f_impl_NodeOk.l3 n p.1 p.2.1 p.2.2.1 p.2.2.2.1 p.2.2.2.2.1 p.2.2.2.2.2.1 p.2.2.2.2.2.2.1 p.2.2.2.2.2.2.2.1 p.2.2.2.2.2.2.2.2.1 p.2.2.2.2.2.2.2.2.2) (fun _ => rfl) (fun n p => by kernel_rfl)
theorem f_impl_NodeOk.l4.ok : ∀ n p, (fun (p : List Int × Int × Int × Int × Int × (List (Int × List Int × Bool)) × (List (List Int × Int × List Bool × Bool × Int × Bool × Int × (List (Int × Bool)))) × (List (Int × (List (Int × Int × Bool × List Int)))) × List Int × Int) => f_impl_NodeOk.l4 n p.1 p.2.1 p.2.2.1 p.2.2.2.1 p.2.2.2.2.1 p.2.2.2.2.2.1 p.2.2.2.2.2.2.1 p.2.2.2.2.2.2.2.1 p.2.2.2.2.2.2.2.2.1 p.2.2.2.2.2.2.2.2.2) p = iterD (roundOf fs X47 4 192 2 true f_impl_NodeOk.l4.c) n p :=
  iter_of (l := fun n => fun (p : List Int × Int × Int × Int × Int × (List (Int × List Int × Bool)) × (List (List Int × Int × List Bool × Bool × Int × Bool × Int × (List (Int × Bool)))) × (List (Int × (List (Int × Int × Bool × List Int)))) × List Int × Int) => f_impl_NodeOk.l4 n p.1 p.2.1 p.2.2.1 p.2.2.2.1 p.2.2.2.2.1 p.2.2.2.2.2.1 p.2.2.2.2.2.2.1 p.2.2.2.2.2.2.2.1 p.2.2.2.2.2.2.2.2.1 p.2.2.2.2.2.2.2.2.2) (fun _ => rfl) (fun n p => by kernel_rfl)
theorem f_impl_NodeOk.l5.ok : ∀ n p, (fun (p : (List (Int × (List (Int × Int × Bool × List Int)))) × Int × Int × Int × Int × (List (Int × List Int × Bool)) × (List (List Int × Int × List Bool × Bool × Int × Bool × Int × (List (Int × Bool)))) × (List (Int × (List (Int × Int × Bool × List Int)))) × List Int × Int) => f_impl_NodeOk.l5 n p.1 p.2.1 p.2.2.1 p.2.2.2.1 p.2.2.2.2.1 p.2.2.2.2.2.1 p.2.2.2.2.2.2.1 p.2.2.2.2.2.2.2.1 p.2.2.2.2.2.2.2.2.1 p.2.2.2.2.2.2.2.2.2) p = iterD (roundOf fs X47 4 189 2 true f_impl_NodeOk.l5.c) n p :=
  iter_of (l := fun n => fun (p : (List (Int × (List (Int × Int × Bool × List Int)))) × Int × Int × Int × Int × (List (Int × List Int × Bool)) × (List (List Int × Int × List Bool × Bool × Int × Bool × Int × (List (Int × Bool)))) × (List (Int × (List (Int × Int × Bool × List Int)))) × List Int × Int) => f_impl_NodeOk.l5 n p.1 p.2.1 p.2.2.1 p.2.2.2.1 p.2.2.2.2.1 p.2.2.2.2.2.1 p.2.2.2.2.2.2.1 p.2.2.2.2.2.2.2.1 p.2.2.2.2.2.2.2.2.1 p.2.2.2.2.2.2.2.2.2) (fun _ => rfl) (fun n p => by kernel_rfl)
theorem f_impl_NodeOk.l6.ok : ∀ n p, (fun (p : List Int × Int × Int × Int × Int × (List (Int × List Int × Bool)) × (List (List Int × Int × List Bool × Bool × Int × Bool × Int × (List (Int × Bool)))) × (List (Int × (List (Int × Int × Bool × List Int)))) × List Int × Int) => f_impl_NodeOk.l6 n p.1 p.2.1 p.2.2.1 p.2.2.2.1 p.2.2.2.2.1 p.2.2.2.2.2.1 p.2.2.2.2.2.2.1 p.2.2.2.2.2.2.2.1 p.2.2.2.2.2.2.2.2.1 p.2.2.2.2.2.2.2.2.2) p = iterD (roundOf fs X47 4 192 2 true f_impl_NodeOk.l6.c) n p :=
  iter_of (l := fun n => fun (p : List Int × Int × Int × Int × Int × (List (Int × List Int × Bool)) × (List (List Int × Int × List Bool × Bool × Int × Bool × Int × (List (Int × Bool)))) × (List (Int × (List (Int × Int × Bool × List Int)))) × List Int × Int) => f_impl_NodeOk.l6 n p.1 p.2.1 p.2.2.1 p.2.2.2.1 p.2.2.2.2.1 p.2.2.2.2.2.1 p.2.2.2.2.2.2.1 p.2.2.2.2.2.2.2.1 p.2.2.2.2.2.2.2.2.1 p.2.2.2.2.2.2.2.2.2) (fun _ => rfl) (fun n p => by kernel_rfl)
theorem f_impl_NodeOk.l7.ok : ∀ n p, (fun (p : (List (List Int × Int × List Bool × Bool × Int × Bool × Int × (List (Int × Bool)))) × Int × Int × Int × Int × (List (Int × List Int × Bool)) × (List (List Int × Int × List Bool × Bool × Int × Bool × Int × (List (Int × Bool)))) × (List (Int × (List (Int × Int × Bool × List Int)))) × List Int × Int) => f_impl_NodeOk.l7 n p.1 p.2.1 p.2.2.1 p.2.2.2.1 p.2.2.2.2.1 p.2.2.2.2.2.1 p.2.2.2.2.2.2.1 p.2.2.2.2.2.2.2.1 p.2.2.2.2.2.2.2.2.1 p.2.2.2.2.2.2.2.2.2) p = iterD (roundOf fs X47 4 186 2 true f_impl_NodeOk.l7.c) n p :=
  iter_of (l := fun n => fun (p : (List (List Int × Int × List Bool × Bool × Int × Bool × Int × (List (Int × Bool)))) × Int × Int × Int × Int × (List (Int × List Int × Bool)) × (List (List Int × Int × List Bool × Bool × Int × Bool × Int × (List (Int × Bool)))) × (List (Int × (List (Int × Int × Bool × List Int)))) × List Int × Int) => f_impl_NodeOk.l7 n p.1 p.2.1 p.2.2.1 p.2.2.2.1 p.2.2.2.2.1 p.2.2.2.2.2.1 p.2.2.2.2.2.2.1 p.2.2.2.2.2.2.2.1 p.2.2.2.2.2.2.2.2.1 p.2.2.2.2.2.2.2.2.2) (fun _ => rfl) (fun n p => by kernel_rfl)
theorem f_impl_NodeOk.l8.ok : ∀ n p, (fun (p : (List (Int × (List (Int × Int × Bool × List Int)))) × Int × Int × Int × Int × (List (Int × List Int × Bool)) × (List (List Int × Int × List Bool × Bool × Int × Bool × Int × (List (Int × Bool)))) × (List (Int × (List (Int × Int × Bool × List Int)))) × List Int × Int) => f_impl_NodeOk.l8 n p.1 p.2.1 p.2.2.1 p.2.2.2.1 p.2.2.2.2.1 p.2.2.2.2.2.1 p.2.2.2.2.2.2.1 p.2.2.2.2.2.2.2.1 p.2.2.2.2.2.2.2.2.1 p.2.2.2.2.2.2.2.2.2) p = iterD (roundOf fs X47 4 189 2 true f_impl_NodeOk.l8.c) n p :=
  iter_of (l := fun n => fun (p : (List (Int × (List (Int × Int × Bool × List Int)))) × Int × Int × Int × Int × (List (Int × List Int × Bool)) × (List (List Int × Int × List Bool × Bool × Int × Bool × Int × (List (Int × Bool)))) × (List (Int × (List (Int × Int × Bool × List Int)))) × List Int × Int) => f_impl_NodeOk.l8 n p.1 p.2.1 p.2.2.1 p.2.2.2.1 p.2.2.2.2.1 p.2.2.2.2.2.1 p.2.2.2.2.2.2.1 p.2.2.2.2.2.2.2.1 p.2.2.2.2.2.2.2.2.1 p.2.2.2.2.2.2.2.2.2) (fun _ => rfl) (fun n p => by kernel_rfl)
theorem f_impl_NodeOk.l9.ok : ∀ n p, (fun (p : List Int × Int × Int × Int × Int × (List (Int × List Int × Bool)) × (List (List Int × Int × List Bool × Bool × Int × Bool × Int × (List (Int × Bool)))) × (List (Int × (List (Int × Int × Bool × List Int)))) × List Int × Int) => f_impl_NodeOk.l9 n p.1 p.2.1 p.2.2.1 p.2.2.2.1 p.2.2.2.2.1 p.2.2.2.2.2.1 p.2.2.2.2.2.2.1 p.2.2.2.2.2.2.2.1 p.2.2.2.2.2.2.2.2.1 p.2.2.2.2.2.2.2.2.2) p = iterD (roundOf fs X47 4 192 2 true f_impl_NodeOk.l9.c) n p :=
  iter_of (l := fun n => fun (p : List Int × Int × Int × Int × Int × (List (Int × List Int × Bool)) × (List (List Int × Int × List Bool × Bool × Int × Bool × Int × (List (Int × Bool)))) × (List (Int × (List (Int × Int × Bool × List Int)))) × List Int × Int) => f_impl_NodeOk.l9 n p.1 p.2.1 p.2.2.1 p.2.2.2.1 p.2.2.2.2.1 p.2.2.2.2.2.1 p.2.2.2.2.2.2.1 p.2.2.2.2.2.2.2.1 p.2.2.2.2.2.2.2.2.1 p.2.2.2.2.2.2.2.2.2) (fun _ => rfl) (fun n p => by kernel_rfl)
theorem E47 : ∀ x, funRun fs X47 6 47 C47 x = C47.fn x := fun x => by kernel_rfl
theorem B47 : ConB Tryz.prog 47 C47 := ConB.make FS MIX TY (cons := K47) (L := L47) (ptrs := Q47) ⟨S100, S119, S122, S125, S128, trivial⟩ trivial ⟨⟨⟨N, fun p => f_impl_NodeOk.l0.ok N p⟩, trivial⟩, ⟨⟨N, fun p => f_impl_NodeOk.l1.ok N p⟩, ⟨N, fun p => f_impl_NodeOk.l7.ok N p⟩, trivial⟩, ⟨⟨N, fun p => f_impl_NodeOk.l2.ok N p⟩, ⟨N, fun p => f_impl_NodeOk.l5.ok N p⟩, ⟨N, fun p => f_impl_NodeOk.l8.ok N p⟩, trivial⟩, ⟨⟨N, fun p => f_impl_NodeOk.l3.ok N p⟩, ⟨N, fun p => f_impl_NodeOk.l4.ok N p⟩, ⟨N, fun p => f_impl_NodeOk.l6.ok N p⟩, ⟨N, fun p => f_impl_NodeOk.l9.ok N p⟩, trivial⟩, trivial⟩ rfl rfl E47
theorem S47 : ConS Tryz.prog 47 C47 := B47.call rfl
/-! impl.lacks: function 85 -/
noncomputable def f_impl_lacks (x0 : Int) (x1 : List Int) (x2 : Bool) (x3 : Bool) : Option (Bool) :=
  bif (decide (x0 = (0 : Int))) then
    some true
  else
    bif x3 then
      some (!(decide (x0 = (2 : Int))))
    else
      some false
noncomputable def C85 : Con := ⟨[(.B, true, [(.int .i64), (.sl R0), .bool]), (.B, false, [.bool])], [(false, [.bool])], [(.int .i64), (.sl R0), .bool, .bool], [.bool], fun (p : Int × List Int × Bool × Bool) => f_impl_lacks p.1 p.2.1 p.2.2.1 p.2.2.2⟩
noncomputable abbrev K85 : Cons := []
noncomputable abbrev L85 : List (Nat × Loops) := []
abbrev Q85 : List (Nat × List (Int × Nat) × Nat) := []
noncomputable abbrev X85 : Nat → Ctx := ctxOf tb K85 L85 Q85
theorem E85 : ∀ x, funRun fs X85 6 85 C85 x = C85.fn x := fun x => by kernel_rfl
theorem B85 : ConB Tryz.prog 85 C85 := ConB.make FS MIX TY (cons := K85) (L := L85) (ptrs := Q85) trivial trivial trivial rfl rfl E85
theorem S85 : ConS Tryz.prog 85 C85 := B85.call rfl
/-! impl.Queue: function 86 -/
noncomputable def f_impl_Queue (x0 : Int) (x1 : List (Int × Int × Bool × List Int)) (x2 : Int) (x3 : Int) (x4 : Bool) (x5 : List Int) : Option (Int × (List (Int × Int × Bool × List Int)) × Bool) :=
  (f_impl_copySender x0 x1).bind fun y569 =>
  (f_impl_SenderOk y569.1 y569.2).bind fun y570 =>
  bif (!y570) then
    some (y569.1, y569.2, false)
  else
    (f_impl_MsgOk x2 x3 x4 x5).bind fun y571 =>
    bif (!y571) then
      some (y569.1, y569.2, false)
    else
      bif (decide ((y569.2.length : Int) = (30 : Int))) then
        some (y569.1, y569.2, false)
      else
        bif (decide ((IntKind.wrap .i64 (y569.1 + (y569.2.length : Int))) = (100000 : Int))) then
          some (y569.1, y569.2, false)
        else
          (f_impl_copyMsg x2 x3 x4 x5).bind fun y572 =>
          bif (Nat.blt (y569.2.length + ([(y572.1, y572.2.1, y572.2.2.1, y572.2.2.2)] : List (Int × Int × Bool × List Int)).length) 2932031007402) then
          (some ((y569.2 ++ ([(y572.1, y572.2.1, y572.2.2.1, y572.2.2.2)] : List (Int × Int × Bool × List Int))) : List (Int × Int × Bool × List Int))).bind fun z573 =>
          some (y569.1, z573, true)
          else none
noncomputable def C86 : Con := ⟨[(.B, true, [(.int .i64), (.sl R5)]), (.B, true, [(.int .i64), (.int .i64), .bool, (.sl R0)])], [(true, [(.int .i64), (.sl R5)]), (false, [.bool])], [(.int .i64), (.sl R5), (.int .i64), (.int .i64), .bool, (.sl R0)], [(.int .i64), (.sl R5), .bool], fun (p : Int × (List (Int × Int × Bool × List Int)) × Int × Int × Bool × List Int) => f_impl_Queue p.1 p.2.1 p.2.2.1 p.2.2.2.1 p.2.2.2.2.1 p.2.2.2.2.2⟩
noncomputable abbrev K86 : Cons := [(110, C110), (126, C126), (162, C162), (163, C163)]
noncomputable abbrev L86 : List (Nat × Loops) := []
abbrev Q86 : List (Nat × List (Int × Nat) × Nat) := []
noncomputable abbrev X86 : Nat → Ctx := ctxOf tb K86 L86 Q86
theorem E86 : ∀ x, funRun fs X86 6 86 C86 x = C86.fn x := fun x => by kernel_rfl
theorem B86 : ConB Tryz.prog 86 C86 := ConB.make FS MIX TY (cons := K86) (L := L86) (ptrs := Q86) ⟨S110, S126, S162, S163, trivial⟩ trivial trivial rfl rfl E86
theorem S86 : ConS Tryz.prog 86 C86 := B86.call rfl
/-! impl.Want: function 21 -/
noncomputable def f_impl_Want (x0 : Int) (x1 : List (Int × List Int × Bool)) (x2 : List (List Int × Int × List Bool × Bool × Int × Bool × Int × (List (Int × Bool)))) (x3 : List (Int × (List (Int × Int × Bool × List Int)))) (x4 : List Int) (x5 : Int) (x6 : Int) (x7 : Bool) : Option (Int × (List (Int × List Int × Bool)) × (List (List Int × Int × List Bool × Bool × Int × Bool × Int × (List (Int × Bool)))) × (List (Int × (List (Int × Int × Bool × List Int)))) × List Int × Bool) :=
  (f_impl_copyNode x0 x1 x2 x3 x4).bind fun y574 =>
  (f_impl_NodeOk x0 x1 x2 x3 x4 x5).bind fun y575 =>
  bif (!y575) then
    some (y574.1, y574.2.1, y574.2.2.1, y574.2.2.2.1, y574.2.2.2.2, false)
  else
    (f_impl_isPage x6).bind fun y576 =>
    bif (!y576) then
      some (y574.1, y574.2.1, y574.2.2.1, y574.2.2.2.1, y574.2.2.2.2, false)
    else
      bif ((decide ((0 : Int) ≤ x6)) && (decide (x6 < (x1.length : Int)))) then
      bif (x1.getD x6.toNat (0, [], false)).2.2 then
        some (y574.1, y574.2.1, y574.2.2.1, y574.2.2.2.1, y574.2.2.2.2, false)
      else
        bif ((decide ((0 : Int) ≤ x6)) && (decide (x6 < (x1.length : Int)))) then
        (f_impl_lacks ((x1.getD x6.toNat (0, [], false)).1) ((x1.getD x6.toNat (0, [], false)).2.1) ((x1.getD x6.toNat (0, [], false)).2.2) x7).bind fun y577 =>
        bif (!y577) then
          some (y574.1, y574.2.1, y574.2.2.1, y574.2.2.2.1, y574.2.2.2.2, false)
        else
          bif x7 then
            bif (decide (x5 = (0 : Int))) then none else
            bif ((decide ((0 : Int) ≤ (Int.tmod x6 x5))) && (decide ((Int.tmod x6 x5) < (y574.2.2.2.1.length : Int)))) then
            (f_impl_Queue ((y574.2.2.2.1.getD (Int.tmod x6 x5).toNat (0, [])).1) ((y574.2.2.2.1.getD (Int.tmod x6 x5).toNat (0, [])).2) 2 x6 false []).bind fun y578 =>
            bif (!y578.2.2) then
              some (y574.1, y574.2.1, y574.2.2.1, y574.2.2.2.1, y574.2.2.2.2, false)
            else
              bif ((decide ((0 : Int) ≤ (Int.tmod x6 x5))) && (decide ((Int.tmod x6 x5) < (y574.2.2.2.1.length : Int)))) then
              (some ((y574.2.2.2.1.set (Int.tmod x6 x5).toNat (y578.1, y578.2.1)) : List (Int × (List (Int × Int × Bool × List Int))))).bind fun z579 =>
              bif ((decide ((0 : Int) ≤ x6)) && (decide (x6 < (y574.2.1.length : Int)))) then
              (some ((y574.2.1.set x6.toNat ((y574.2.1.getD x6.toNat (0, [], false)).1, (y574.2.1.getD x6.toNat (0, [], false)).2.1, true)) : List (Int × List Int × Bool))).bind fun z580 =>
              some (y574.1, z580, y574.2.2.1, z579, y574.2.2.2.2, true)
              else none
              else none
            else none
          else
            bif (decide (x5 = (0 : Int))) then none else
            bif ((decide ((0 : Int) ≤ (Int.tmod x6 x5))) && (decide ((Int.tmod x6 x5) < (y574.2.2.2.1.length : Int)))) then
            (f_impl_Queue ((y574.2.2.2.1.getD (Int.tmod x6 x5).toNat (0, [])).1) ((y574.2.2.2.1.getD (Int.tmod x6 x5).toNat (0, [])).2) 1 x6 false []).bind fun y581 =>
            bif (!y581.2.2) then
              some (y574.1, y574.2.1, y574.2.2.1, y574.2.2.2.1, y574.2.2.2.2, false)
            else
              bif ((decide ((0 : Int) ≤ (Int.tmod x6 x5))) && (decide ((Int.tmod x6 x5) < (y574.2.2.2.1.length : Int)))) then
              (some ((y574.2.2.2.1.set (Int.tmod x6 x5).toNat (y581.1, y581.2.1)) : List (Int × (List (Int × Int × Bool × List Int))))).bind fun z582 =>
              bif ((decide ((0 : Int) ≤ x6)) && (decide (x6 < (y574.2.1.length : Int)))) then
              (some ((y574.2.1.set x6.toNat ((y574.2.1.getD x6.toNat (0, [], false)).1, (y574.2.1.getD x6.toNat (0, [], false)).2.1, true)) : List (Int × List Int × Bool))).bind fun z583 =>
              some (y574.1, z583, y574.2.2.1, z582, y574.2.2.2.2, true)
              else none
              else none
            else none
        else none
      else none
noncomputable def C21 : Con := ⟨[(.B, true, [(.int .i64), (.sl R1), (.sl R4), (.sl R6), (.sl R0)]), (.B, false, [(.int .i64)]), (.B, false, [(.int .i64)]), (.B, false, [.bool])], [(true, [(.int .i64), (.sl R1), (.sl R4), (.sl R6), (.sl R0)]), (false, [.bool])], [(.int .i64), (.sl R1), (.sl R4), (.sl R6), (.sl R0), (.int .i64), (.int .i64), .bool], [(.int .i64), (.sl R1), (.sl R4), (.sl R6), (.sl R0), .bool], fun (p : Int × (List (Int × List Int × Bool)) × (List (List Int × Int × List Bool × Bool × Int × Bool × Int × (List (Int × Bool)))) × (List (Int × (List (Int × Int × Bool × List Int)))) × List Int × Int × Int × Bool) => f_impl_Want p.1 p.2.1 p.2.2.1 p.2.2.2.1 p.2.2.2.2.1 p.2.2.2.2.2.1 p.2.2.2.2.2.2.1 p.2.2.2.2.2.2.2⟩
noncomputable abbrev K21 : Cons := [(47, C47), (65, C65), (84, C84), (85, C85), (86, C86)]
noncomputable abbrev L21 : List (Nat × Loops) := []
abbrev Q21 : List (Nat × List (Int × Nat) × Nat) := []
noncomputable abbrev X21 : Nat → Ctx := ctxOf tb K21 L21 Q21
theorem E21 : ∀ x, funRun fs X21 6 21 C21 x = C21.fn x := fun x => by kernel_rfl
theorem B21 : ConB Tryz.prog 21 C21 := ConB.make FS MIX TY (cons := K21) (L := L21) (ptrs := Q21) ⟨S47, S65, S84, S85, S86, trivial⟩ trivial trivial rfl rfl E21
theorem S21 : ConS Tryz.prog 21 C21 := B21.call rfl
/-! laws.eqIntS: function 39 -/
noncomputable def f_laws_eqIntS.l0 : Nat → (List Int) → (List Int) → Bool → Int → Option ((Bool) ⊕ (Bool))
  | 0, _, _, _, _ => none
  | n + 1, p584, p585, p586, p587 =>
    bif (decide (p587 < (p584.length : Int))) then
      bif ((decide ((0 : Int) ≤ p587)) && (decide (p587 < (p584.length : Int)))) then
      bif ((decide ((0 : Int) ≤ p587)) && (decide (p587 < (p585.length : Int)))) then
      bif (!(decide ((p584.getD p587.toNat 0) = (p585.getD p587.toNat 0)))) then
        some (.inl false)
      else
        f_laws_eqIntS.l0 n p584 p585 p586 (IntKind.wrap .i64 (p587 + (1 : Int)))
      else none
      else none
    else
      some (.inr p586)
noncomputable def f_laws_eqIntS (x0 : List Int) (x1 : List Int) : Option (Bool) :=
  bif (!(decide ((x0.length : Int) = (x1.length : Int)))) then
    some false
  else
    (f_laws_eqIntS.l0 N x0 x1 false 0).bind fun r588 =>
    cs r588 (fun a589 =>
      some a589) (fun b590 =>
      some true)
noncomputable def C39 : Con := ⟨[(.B, false, [(.sl R0)]), (.B, false, [(.sl R0)])], [(false, [.bool])], [(.sl R0), (.sl R0)], [.bool], fun (p : List Int × List Int) => f_laws_eqIntS p.1 p.2⟩
noncomputable def f_laws_eqIntS.l0.c : LoopCon := ⟨1000, 6, [0, 1, 4, 5], ⟨[(0, .bor none R0 []), (1, .bor none R0 []), (4, .bool false), (5, .int .i64 0)], [], 1000⟩, [(.sl R0), (.sl R0), .bool, (.int .i64)], [⟨.ret, [4], ⟨[(4, .bool false)], [], 1000⟩, [.bool]⟩, ⟨.exit 0, [4], ⟨[(4, .bool false)], [], 1000⟩, [.bool]⟩], fun (p : List Int × List Int × Bool × Int) => f_laws_eqIntS.l0 N p.1 p.2.1 p.2.2.1 p.2.2.2⟩
noncomputable abbrev K39 : Cons := []
noncomputable abbrev L39 : List (Nat × Loops) := [(39, [(4, f_laws_eqIntS.l0.c)])]
abbrev Q39 : List (Nat × List (Int × Nat) × Nat) := []
noncomputable abbrev X39 : Nat → Ctx := ctxOf tb K39 L39 Q39
theorem f_laws_eqIntS.l0.ok : ∀ n p, (fun (p : List Int × List Int × Bool × Int) => f_laws_eqIntS.l0 n p.1 p.2.1 p.2.2.1 p.2.2.2) p = iterD (roundOf fs X39 6 39 4 false f_laws_eqIntS.l0.c) n p :=
  iter_of (l := fun n => fun (p : List Int × List Int × Bool × Int) => f_laws_eqIntS.l0 n p.1 p.2.1 p.2.2.1 p.2.2.2) (fun _ => rfl) (fun n p => by kernel_rfl)
theorem E39 : ∀ x, funRun fs X39 6 39 C39 x = C39.fn x := fun x => by kernel_rfl
theorem B39 : ConB Tryz.prog 39 C39 := ConB.make FS MIX TY (cons := K39) (L := L39) (ptrs := Q39) trivial trivial ⟨⟨⟨N, fun p => f_laws_eqIntS.l0.ok N p⟩, trivial⟩, trivial⟩ rfl rfl E39
theorem S39 : ConS Tryz.prog 39 C39 := B39.call rfl
/-! laws.eqFrame: function 164 -/
noncomputable def f_laws_eqFrame (x0 : Int) (x1 : List Int) (x2 : Bool) (x3 : Int) (x4 : List Int) (x5 : Bool) : Option (Bool) :=
  bif (!(decide (x0 = x3))) then
    some false
  else
    (f_laws_eqIntS x1 x4).bind fun y591 =>
    bif (!y591) then
      some false
    else
      bif (!(x2 == x5)) then
        some false
      else
        some true
noncomputable def C164 : Con := ⟨[(.B, true, [(.int .i64), (.sl R0), .bool]), (.B, true, [(.int .i64), (.sl R0), .bool])], [(false, [.bool])], [(.int .i64), (.sl R0), .bool, (.int .i64), (.sl R0), .bool], [.bool], fun (p : Int × List Int × Bool × Int × List Int × Bool) => f_laws_eqFrame p.1 p.2.1 p.2.2.1 p.2.2.2.1 p.2.2.2.2.1 p.2.2.2.2.2⟩
noncomputable abbrev K164 : Cons := [(39, C39)]
noncomputable abbrev L164 : List (Nat × Loops) := []
abbrev Q164 : List (Nat × List (Int × Nat) × Nat) := []
noncomputable abbrev X164 : Nat → Ctx := ctxOf tb K164 L164 Q164
theorem E164 : ∀ x, funRun fs X164 6 164 C164 x = C164.fn x := fun x => by kernel_rfl
theorem B164 : ConB Tryz.prog 164 C164 := ConB.make FS MIX TY (cons := K164) (L := L164) (ptrs := Q164) ⟨S39, trivial⟩ trivial trivial rfl rfl E164
theorem S164 : ConS Tryz.prog 164 C164 := B164.call rfl
/-! laws.eqFrameS: function 87 -/
noncomputable def f_laws_eqFrameS.l0 : Nat → (List (Int × List Int × Bool)) → (List (Int × List Int × Bool)) → Bool → Int → Option ((Bool) ⊕ (Bool))
  | 0, _, _, _, _ => none
  | n + 1, p592, p593, p594, p595 =>
    bif (decide (p595 < (p592.length : Int))) then
      bif ((decide ((0 : Int) ≤ p595)) && (decide (p595 < (p592.length : Int)))) then
      bif ((decide ((0 : Int) ≤ p595)) && (decide (p595 < (p593.length : Int)))) then
      (f_laws_eqFrame ((p592.getD p595.toNat (0, [], false)).1) ((p592.getD p595.toNat (0, [], false)).2.1) ((p592.getD p595.toNat (0, [], false)).2.2) ((p593.getD p595.toNat (0, [], false)).1) ((p593.getD p595.toNat (0, [], false)).2.1) ((p593.getD p595.toNat (0, [], false)).2.2)).bind fun y596 =>
      bif (!y596) then
        some (.inl false)
      else
        f_laws_eqFrameS.l0 n p592 p593 p594 (IntKind.wrap .i64 (p595 + (1 : Int)))
      else none
      else none
    else
      some (.inr p594)
noncomputable def f_laws_eqFrameS (x0 : List (Int × List Int × Bool)) (x1 : List (Int × List Int × Bool)) : Option (Bool) :=
  bif (!(decide ((x0.length : Int) = (x1.length : Int)))) then
    some false
  else
    (f_laws_eqFrameS.l0 N x0 x1 false 0).bind fun r597 =>
    cs r597 (fun a598 =>
      some a598) (fun b599 =>
      some true)
noncomputable def C87 : Con := ⟨[(.B, false, [(.sl R1)]), (.B, false, [(.sl R1)])], [(false, [.bool])], [(.sl R1), (.sl R1)], [.bool], fun (p : (List (Int × List Int × Bool)) × (List (Int × List Int × Bool))) => f_laws_eqFrameS p.1 p.2⟩
noncomputable def f_laws_eqFrameS.l0.c : LoopCon := ⟨1000, 6, [0, 1, 4, 5], ⟨[(0, .bor none R1 []), (1, .bor none R1 []), (4, .bool false), (5, .int .i64 0)], [], 1000⟩, [(.sl R1), (.sl R1), .bool, (.int .i64)], [⟨.ret, [4], ⟨[(4, .bool false)], [], 1000⟩, [.bool]⟩, ⟨.exit 0, [4], ⟨[(4, .bool false)], [], 1000⟩, [.bool]⟩], fun (p : (List (Int × List Int × Bool)) × (List (Int × List Int × Bool)) × Bool × Int) => f_laws_eqFrameS.l0 N p.1 p.2.1 p.2.2.1 p.2.2.2⟩
noncomputable abbrev K87 : Cons := [(164, C164)]
noncomputable abbrev L87 : List (Nat × Loops) := [(87, [(4, f_laws_eqFrameS.l0.c)])]
abbrev Q87 : List (Nat × List (Int × Nat) × Nat) := []
noncomputable abbrev X87 : Nat → Ctx := ctxOf tb K87 L87 Q87
theorem f_laws_eqFrameS.l0.ok : ∀ n p, (fun (p : (List (Int × List Int × Bool)) × (List (Int × List Int × Bool)) × Bool × Int) => f_laws_eqFrameS.l0 n p.1 p.2.1 p.2.2.1 p.2.2.2) p = iterD (roundOf fs X87 6 87 4 false f_laws_eqFrameS.l0.c) n p :=
  iter_of (l := fun n => fun (p : (List (Int × List Int × Bool)) × (List (Int × List Int × Bool)) × Bool × Int) => f_laws_eqFrameS.l0 n p.1 p.2.1 p.2.2.1 p.2.2.2) (fun _ => rfl) (fun n p => by kernel_rfl)
theorem E87 : ∀ x, funRun fs X87 6 87 C87 x = C87.fn x := fun x => by kernel_rfl
theorem B87 : ConB Tryz.prog 87 C87 := ConB.make FS MIX TY (cons := K87) (L := L87) (ptrs := Q87) ⟨S164, trivial⟩ trivial ⟨⟨⟨N, fun p => f_laws_eqFrameS.l0.ok N p⟩, trivial⟩, trivial⟩ rfl rfl E87
theorem S87 : ConS Tryz.prog 87 C87 := B87.call rfl
/-! laws.eqBoolS: function 203 -/
noncomputable def f_laws_eqBoolS.l0 : Nat → (List Bool) → (List Bool) → Bool → Int → Option ((Bool) ⊕ (Bool))
  | 0, _, _, _, _ => none
  | n + 1, p600, p601, p602, p603 =>
    bif (decide (p603 < (p600.length : Int))) then
      bif ((decide ((0 : Int) ≤ p603)) && (decide (p603 < (p600.length : Int)))) then
      bif ((decide ((0 : Int) ≤ p603)) && (decide (p603 < (p601.length : Int)))) then
      bif (!((p600.getD p603.toNat false) == (p601.getD p603.toNat false))) then
        some (.inl false)
      else
        f_laws_eqBoolS.l0 n p600 p601 p602 (IntKind.wrap .i64 (p603 + (1 : Int)))
      else none
      else none
    else
      some (.inr p602)
noncomputable def f_laws_eqBoolS (x0 : List Bool) (x1 : List Bool) : Option (Bool) :=
  bif (!(decide ((x0.length : Int) = (x1.length : Int)))) then
    some false
  else
    (f_laws_eqBoolS.l0 N x0 x1 false 0).bind fun r604 =>
    cs r604 (fun a605 =>
      some a605) (fun b606 =>
      some true)
noncomputable def C203 : Con := ⟨[(.B, false, [(.sl R2)]), (.B, false, [(.sl R2)])], [(false, [.bool])], [(.sl R2), (.sl R2)], [.bool], fun (p : List Bool × List Bool) => f_laws_eqBoolS p.1 p.2⟩
noncomputable def f_laws_eqBoolS.l0.c : LoopCon := ⟨1000, 6, [0, 1, 4, 5], ⟨[(0, .bor none R2 []), (1, .bor none R2 []), (4, .bool false), (5, .int .i64 0)], [], 1000⟩, [(.sl R2), (.sl R2), .bool, (.int .i64)], [⟨.ret, [4], ⟨[(4, .bool false)], [], 1000⟩, [.bool]⟩, ⟨.exit 0, [4], ⟨[(4, .bool false)], [], 1000⟩, [.bool]⟩], fun (p : List Bool × List Bool × Bool × Int) => f_laws_eqBoolS.l0 N p.1 p.2.1 p.2.2.1 p.2.2.2⟩
noncomputable abbrev K203 : Cons := []
noncomputable abbrev L203 : List (Nat × Loops) := [(203, [(4, f_laws_eqBoolS.l0.c)])]
abbrev Q203 : List (Nat × List (Int × Nat) × Nat) := []
noncomputable abbrev X203 : Nat → Ctx := ctxOf tb K203 L203 Q203
theorem f_laws_eqBoolS.l0.ok : ∀ n p, (fun (p : List Bool × List Bool × Bool × Int) => f_laws_eqBoolS.l0 n p.1 p.2.1 p.2.2.1 p.2.2.2) p = iterD (roundOf fs X203 6 203 4 false f_laws_eqBoolS.l0.c) n p :=
  iter_of (l := fun n => fun (p : List Bool × List Bool × Bool × Int) => f_laws_eqBoolS.l0 n p.1 p.2.1 p.2.2.1 p.2.2.2) (fun _ => rfl) (fun n p => by kernel_rfl)
theorem E203 : ∀ x, funRun fs X203 6 203 C203 x = C203.fn x := fun x => by kernel_rfl
theorem B203 : ConB Tryz.prog 203 C203 := ConB.make FS MIX TY (cons := K203) (L := L203) (ptrs := Q203) trivial trivial ⟨⟨⟨N, fun p => f_laws_eqBoolS.l0.ok N p⟩, trivial⟩, trivial⟩ rfl rfl E203
theorem S203 : ConS Tryz.prog 203 C203 := B203.call rfl
/-! laws.eqWait: function 204 -/
noncomputable def f_laws_eqWait (x0 : Int) (x1 : Bool) (x2 : Int) (x3 : Bool) : Option (Bool) :=
  bif (!(decide (x0 = x2))) then
    some false
  else
    bif (!(x1 == x3)) then
      some false
    else
      some true
noncomputable def C204 : Con := ⟨[(.B, true, [(.int .i64), .bool]), (.B, true, [(.int .i64), .bool])], [(false, [.bool])], [(.int .i64), .bool, (.int .i64), .bool], [.bool], fun (p : Int × Bool × Int × Bool) => f_laws_eqWait p.1 p.2.1 p.2.2.1 p.2.2.2⟩
noncomputable abbrev K204 : Cons := []
noncomputable abbrev L204 : List (Nat × Loops) := []
abbrev Q204 : List (Nat × List (Int × Nat) × Nat) := []
noncomputable abbrev X204 : Nat → Ctx := ctxOf tb K204 L204 Q204
theorem E204 : ∀ x, funRun fs X204 6 204 C204 x = C204.fn x := fun x => by kernel_rfl
theorem B204 : ConB Tryz.prog 204 C204 := ConB.make FS MIX TY (cons := K204) (L := L204) (ptrs := Q204) trivial trivial trivial rfl rfl E204
theorem S204 : ConS Tryz.prog 204 C204 := B204.call rfl
/-! laws.eqWaitS: function 205 -/
noncomputable def f_laws_eqWaitS.l0 : Nat → (List (Int × Bool)) → (List (Int × Bool)) → Bool → Int → Option ((Bool) ⊕ (Bool))
  | 0, _, _, _, _ => none
  | n + 1, p607, p608, p609, p610 =>
    bif (decide (p610 < (p607.length : Int))) then
      bif ((decide ((0 : Int) ≤ p610)) && (decide (p610 < (p607.length : Int)))) then
      bif ((decide ((0 : Int) ≤ p610)) && (decide (p610 < (p608.length : Int)))) then
      (f_laws_eqWait ((p607.getD p610.toNat (0, false)).1) ((p607.getD p610.toNat (0, false)).2) ((p608.getD p610.toNat (0, false)).1) ((p608.getD p610.toNat (0, false)).2)).bind fun y611 =>
      bif (!y611) then
        some (.inl false)
      else
        f_laws_eqWaitS.l0 n p607 p608 p609 (IntKind.wrap .i64 (p610 + (1 : Int)))
      else none
      else none
    else
      some (.inr p609)
noncomputable def f_laws_eqWaitS (x0 : List (Int × Bool)) (x1 : List (Int × Bool)) : Option (Bool) :=
  bif (!(decide ((x0.length : Int) = (x1.length : Int)))) then
    some false
  else
    (f_laws_eqWaitS.l0 N x0 x1 false 0).bind fun r612 =>
    cs r612 (fun a613 =>
      some a613) (fun b614 =>
      some true)
noncomputable def C205 : Con := ⟨[(.B, false, [(.sl R3)]), (.B, false, [(.sl R3)])], [(false, [.bool])], [(.sl R3), (.sl R3)], [.bool], fun (p : (List (Int × Bool)) × (List (Int × Bool))) => f_laws_eqWaitS p.1 p.2⟩
noncomputable def f_laws_eqWaitS.l0.c : LoopCon := ⟨1000, 6, [0, 1, 4, 5], ⟨[(0, .bor none R3 []), (1, .bor none R3 []), (4, .bool false), (5, .int .i64 0)], [], 1000⟩, [(.sl R3), (.sl R3), .bool, (.int .i64)], [⟨.ret, [4], ⟨[(4, .bool false)], [], 1000⟩, [.bool]⟩, ⟨.exit 0, [4], ⟨[(4, .bool false)], [], 1000⟩, [.bool]⟩], fun (p : (List (Int × Bool)) × (List (Int × Bool)) × Bool × Int) => f_laws_eqWaitS.l0 N p.1 p.2.1 p.2.2.1 p.2.2.2⟩
noncomputable abbrev K205 : Cons := [(204, C204)]
noncomputable abbrev L205 : List (Nat × Loops) := [(205, [(4, f_laws_eqWaitS.l0.c)])]
abbrev Q205 : List (Nat × List (Int × Nat) × Nat) := []
noncomputable abbrev X205 : Nat → Ctx := ctxOf tb K205 L205 Q205
theorem f_laws_eqWaitS.l0.ok : ∀ n p, (fun (p : (List (Int × Bool)) × (List (Int × Bool)) × Bool × Int) => f_laws_eqWaitS.l0 n p.1 p.2.1 p.2.2.1 p.2.2.2) p = iterD (roundOf fs X205 6 205 4 false f_laws_eqWaitS.l0.c) n p :=
  iter_of (l := fun n => fun (p : (List (Int × Bool)) × (List (Int × Bool)) × Bool × Int) => f_laws_eqWaitS.l0 n p.1 p.2.1 p.2.2.1 p.2.2.2) (fun _ => rfl) (fun n p => by kernel_rfl)
theorem E205 : ∀ x, funRun fs X205 6 205 C205 x = C205.fn x := fun x => by kernel_rfl
theorem B205 : ConB Tryz.prog 205 C205 := ConB.make FS MIX TY (cons := K205) (L := L205) (ptrs := Q205) ⟨S204, trivial⟩ trivial ⟨⟨⟨N, fun p => f_laws_eqWaitS.l0.ok N p⟩, trivial⟩, trivial⟩ rfl rfl E205
theorem S205 : ConS Tryz.prog 205 C205 := B205.call rfl
/-! laws.eqHome: function 165 -/
noncomputable def f_laws_eqHome (x0 : List Int) (x1 : Int) (x2 : List Bool) (x3 : Bool) (x4 : Int) (x5 : Bool) (x6 : Int) (x7 : List (Int × Bool)) (x8 : List Int) (x9 : Int) (x10 : List Bool) (x11 : Bool) (x12 : Int) (x13 : Bool) (x14 : Int) (x15 : List (Int × Bool)) : Option (Bool) :=
  (f_laws_eqIntS x0 x8).bind fun y615 =>
  bif (!y615) then
    some false
  else
    bif (!(decide (x1 = x9))) then
      some false
    else
      (f_laws_eqBoolS x2 x10).bind fun y616 =>
      bif (!y616) then
        some false
      else
        bif (!(x3 == x11)) then
          some false
        else
          (f_laws_eqWait x4 x5 x12 x13).bind fun y617 =>
          bif (!y617) then
            some false
          else
            bif (!(decide (x6 = x14))) then
              some false
            else
              (f_laws_eqWaitS x7 x15).bind fun y618 =>
              bif (!y618) then
                some false
              else
                some true
noncomputable def C165 : Con := ⟨[(.B, true, [(.sl R0), (.int .i64), (.sl R2), .bool, (.int .i64), .bool, (.int .i64), (.sl R3)]), (.B, true, [(.sl R0), (.int .i64), (.sl R2), .bool, (.int .i64), .bool, (.int .i64), (.sl R3)])], [(false, [.bool])], [(.sl R0), (.int .i64), (.sl R2), .bool, (.int .i64), .bool, (.int .i64), (.sl R3), (.sl R0), (.int .i64), (.sl R2), .bool, (.int .i64), .bool, (.int .i64), (.sl R3)], [.bool], fun (p : List Int × Int × List Bool × Bool × Int × Bool × Int × (List (Int × Bool)) × List Int × Int × List Bool × Bool × Int × Bool × Int × (List (Int × Bool))) => f_laws_eqHome p.1 p.2.1 p.2.2.1 p.2.2.2.1 p.2.2.2.2.1 p.2.2.2.2.2.1 p.2.2.2.2.2.2.1 p.2.2.2.2.2.2.2.1 p.2.2.2.2.2.2.2.2.1 p.2.2.2.2.2.2.2.2.2.1 p.2.2.2.2.2.2.2.2.2.2.1 p.2.2.2.2.2.2.2.2.2.2.2.1 p.2.2.2.2.2.2.2.2.2.2.2.2.1 p.2.2.2.2.2.2.2.2.2.2.2.2.2.1 p.2.2.2.2.2.2.2.2.2.2.2.2.2.2.1 p.2.2.2.2.2.2.2.2.2.2.2.2.2.2.2⟩
noncomputable abbrev K165 : Cons := [(39, C39), (203, C203), (204, C204), (205, C205)]
noncomputable abbrev L165 : List (Nat × Loops) := []
abbrev Q165 : List (Nat × List (Int × Nat) × Nat) := []
noncomputable abbrev X165 : Nat → Ctx := ctxOf tb K165 L165 Q165
theorem E165 : ∀ x, funRun fs X165 6 165 C165 x = C165.fn x := fun x => by kernel_rfl
theorem B165 : ConB Tryz.prog 165 C165 := ConB.make FS MIX TY (cons := K165) (L := L165) (ptrs := Q165) ⟨S39, S203, S204, S205, trivial⟩ trivial trivial rfl rfl E165
theorem S165 : ConS Tryz.prog 165 C165 := B165.call rfl
/-! laws.eqHomeS: function 88 -/
noncomputable def f_laws_eqHomeS.l0 : Nat → (List (List Int × Int × List Bool × Bool × Int × Bool × Int × (List (Int × Bool)))) → (List (List Int × Int × List Bool × Bool × Int × Bool × Int × (List (Int × Bool)))) → Bool → Int → Option ((Bool) ⊕ (Bool))
  | 0, _, _, _, _ => none
  | n + 1, p619, p620, p621, p622 =>
    bif (decide (p622 < (p619.length : Int))) then
      bif ((decide ((0 : Int) ≤ p622)) && (decide (p622 < (p619.length : Int)))) then
      bif ((decide ((0 : Int) ≤ p622)) && (decide (p622 < (p620.length : Int)))) then
      (f_laws_eqHome ((p619.getD p622.toNat ([], 0, [], false, 0, false, 0, [])).1) ((p619.getD p622.toNat ([], 0, [], false, 0, false, 0, [])).2.1) ((p619.getD p622.toNat ([], 0, [], false, 0, false, 0, [])).2.2.1) ((p619.getD p622.toNat ([], 0, [], false, 0, false, 0, [])).2.2.2.1) ((p619.getD p622.toNat ([], 0, [], false, 0, false, 0, [])).2.2.2.2.1) ((p619.getD p622.toNat ([], 0, [], false, 0, false, 0, [])).2.2.2.2.2.1) ((p619.getD p622.toNat ([], 0, [], false, 0, false, 0, [])).2.2.2.2.2.2.1) ((p619.getD p622.toNat ([], 0, [], false, 0, false, 0, [])).2.2.2.2.2.2.2) ((p620.getD p622.toNat ([], 0, [], false, 0, false, 0, [])).1) ((p620.getD p622.toNat ([], 0, [], false, 0, false, 0, [])).2.1) ((p620.getD p622.toNat ([], 0, [], false, 0, false, 0, [])).2.2.1) ((p620.getD p622.toNat ([], 0, [], false, 0, false, 0, [])).2.2.2.1) ((p620.getD p622.toNat ([], 0, [], false, 0, false, 0, [])).2.2.2.2.1) ((p620.getD p622.toNat ([], 0, [], false, 0, false, 0, [])).2.2.2.2.2.1) ((p620.getD p622.toNat ([], 0, [], false, 0, false, 0, [])).2.2.2.2.2.2.1) ((p620.getD p622.toNat ([], 0, [], false, 0, false, 0, [])).2.2.2.2.2.2.2)).bind fun y623 =>
      bif (!y623) then
        some (.inl false)
      else
        f_laws_eqHomeS.l0 n p619 p620 p621 (IntKind.wrap .i64 (p622 + (1 : Int)))
      else none
      else none
    else
      some (.inr p621)
noncomputable def f_laws_eqHomeS (x0 : List (List Int × Int × List Bool × Bool × Int × Bool × Int × (List (Int × Bool)))) (x1 : List (List Int × Int × List Bool × Bool × Int × Bool × Int × (List (Int × Bool)))) : Option (Bool) :=
  bif (!(decide ((x0.length : Int) = (x1.length : Int)))) then
    some false
  else
    (f_laws_eqHomeS.l0 N x0 x1 false 0).bind fun r624 =>
    cs r624 (fun a625 =>
      some a625) (fun b626 =>
      some true)
noncomputable def C88 : Con := ⟨[(.B, false, [(.sl R4)]), (.B, false, [(.sl R4)])], [(false, [.bool])], [(.sl R4), (.sl R4)], [.bool], fun (p : (List (List Int × Int × List Bool × Bool × Int × Bool × Int × (List (Int × Bool)))) × (List (List Int × Int × List Bool × Bool × Int × Bool × Int × (List (Int × Bool))))) => f_laws_eqHomeS p.1 p.2⟩
noncomputable def f_laws_eqHomeS.l0.c : LoopCon := ⟨1000, 6, [0, 1, 4, 5], ⟨[(0, .bor none R4 []), (1, .bor none R4 []), (4, .bool false), (5, .int .i64 0)], [], 1000⟩, [(.sl R4), (.sl R4), .bool, (.int .i64)], [⟨.ret, [4], ⟨[(4, .bool false)], [], 1000⟩, [.bool]⟩, ⟨.exit 0, [4], ⟨[(4, .bool false)], [], 1000⟩, [.bool]⟩], fun (p : (List (List Int × Int × List Bool × Bool × Int × Bool × Int × (List (Int × Bool)))) × (List (List Int × Int × List Bool × Bool × Int × Bool × Int × (List (Int × Bool)))) × Bool × Int) => f_laws_eqHomeS.l0 N p.1 p.2.1 p.2.2.1 p.2.2.2⟩
noncomputable abbrev K88 : Cons := [(165, C165)]
noncomputable abbrev L88 : List (Nat × Loops) := [(88, [(4, f_laws_eqHomeS.l0.c)])]
abbrev Q88 : List (Nat × List (Int × Nat) × Nat) := []
noncomputable abbrev X88 : Nat → Ctx := ctxOf tb K88 L88 Q88
theorem f_laws_eqHomeS.l0.ok : ∀ n p, (fun (p : (List (List Int × Int × List Bool × Bool × Int × Bool × Int × (List (Int × Bool)))) × (List (List Int × Int × List Bool × Bool × Int × Bool × Int × (List (Int × Bool)))) × Bool × Int) => f_laws_eqHomeS.l0 n p.1 p.2.1 p.2.2.1 p.2.2.2) p = iterD (roundOf fs X88 6 88 4 false f_laws_eqHomeS.l0.c) n p :=
  iter_of (l := fun n => fun (p : (List (List Int × Int × List Bool × Bool × Int × Bool × Int × (List (Int × Bool)))) × (List (List Int × Int × List Bool × Bool × Int × Bool × Int × (List (Int × Bool)))) × Bool × Int) => f_laws_eqHomeS.l0 n p.1 p.2.1 p.2.2.1 p.2.2.2) (fun _ => rfl) (fun n p => by kernel_rfl)
theorem E88 : ∀ x, funRun fs X88 6 88 C88 x = C88.fn x := fun x => by kernel_rfl
theorem B88 : ConB Tryz.prog 88 C88 := ConB.make FS MIX TY (cons := K88) (L := L88) (ptrs := Q88) ⟨S165, trivial⟩ trivial ⟨⟨⟨N, fun p => f_laws_eqHomeS.l0.ok N p⟩, trivial⟩, trivial⟩ rfl rfl E88
theorem S88 : ConS Tryz.prog 88 C88 := B88.call rfl
/-! laws.eqMsg: function 55 -/
noncomputable def f_laws_eqMsg (x0 : Int) (x1 : Int) (x2 : Bool) (x3 : List Int) (x4 : Int) (x5 : Int) (x6 : Bool) (x7 : List Int) : Option (Bool) :=
  bif (!(decide (x0 = x4))) then
    some false
  else
    bif (!(decide (x1 = x5))) then
      some false
    else
      bif (!(x2 == x6)) then
        some false
      else
        (f_laws_eqIntS x3 x7).bind fun y627 =>
        bif (!y627) then
          some false
        else
          some true
noncomputable def C55 : Con := ⟨[(.B, true, [(.int .i64), (.int .i64), .bool, (.sl R0)]), (.B, true, [(.int .i64), (.int .i64), .bool, (.sl R0)])], [(false, [.bool])], [(.int .i64), (.int .i64), .bool, (.sl R0), (.int .i64), (.int .i64), .bool, (.sl R0)], [.bool], fun (p : Int × Int × Bool × List Int × Int × Int × Bool × List Int) => f_laws_eqMsg p.1 p.2.1 p.2.2.1 p.2.2.2.1 p.2.2.2.2.1 p.2.2.2.2.2.1 p.2.2.2.2.2.2.1 p.2.2.2.2.2.2.2⟩
noncomputable abbrev K55 : Cons := [(39, C39)]
noncomputable abbrev L55 : List (Nat × Loops) := []
abbrev Q55 : List (Nat × List (Int × Nat) × Nat) := []
noncomputable abbrev X55 : Nat → Ctx := ctxOf tb K55 L55 Q55
theorem E55 : ∀ x, funRun fs X55 6 55 C55 x = C55.fn x := fun x => by kernel_rfl
theorem B55 : ConB Tryz.prog 55 C55 := ConB.make FS MIX TY (cons := K55) (L := L55) (ptrs := Q55) ⟨S39, trivial⟩ trivial trivial rfl rfl E55
theorem S55 : ConS Tryz.prog 55 C55 := B55.call rfl
/-! laws.eqMsgS: function 27 -/
noncomputable def f_laws_eqMsgS.l0 : Nat → (List (Int × Int × Bool × List Int)) → (List (Int × Int × Bool × List Int)) → Bool → Int → Option ((Bool) ⊕ (Bool))
  | 0, _, _, _, _ => none
  | n + 1, p628, p629, p630, p631 =>
    bif (decide (p631 < (p628.length : Int))) then
      bif ((decide ((0 : Int) ≤ p631)) && (decide (p631 < (p628.length : Int)))) then
      bif ((decide ((0 : Int) ≤ p631)) && (decide (p631 < (p629.length : Int)))) then
      (f_laws_eqMsg ((p628.getD p631.toNat (0, 0, false, [])).1) ((p628.getD p631.toNat (0, 0, false, [])).2.1) ((p628.getD p631.toNat (0, 0, false, [])).2.2.1) ((p628.getD p631.toNat (0, 0, false, [])).2.2.2) ((p629.getD p631.toNat (0, 0, false, [])).1) ((p629.getD p631.toNat (0, 0, false, [])).2.1) ((p629.getD p631.toNat (0, 0, false, [])).2.2.1) ((p629.getD p631.toNat (0, 0, false, [])).2.2.2)).bind fun y632 =>
      bif (!y632) then
        some (.inl false)
      else
        f_laws_eqMsgS.l0 n p628 p629 p630 (IntKind.wrap .i64 (p631 + (1 : Int)))
      else none
      else none
    else
      some (.inr p630)
noncomputable def f_laws_eqMsgS (x0 : List (Int × Int × Bool × List Int)) (x1 : List (Int × Int × Bool × List Int)) : Option (Bool) :=
  bif (!(decide ((x0.length : Int) = (x1.length : Int)))) then
    some false
  else
    (f_laws_eqMsgS.l0 N x0 x1 false 0).bind fun r633 =>
    cs r633 (fun a634 =>
      some a634) (fun b635 =>
      some true)
noncomputable def C27 : Con := ⟨[(.B, false, [(.sl R5)]), (.B, false, [(.sl R5)])], [(false, [.bool])], [(.sl R5), (.sl R5)], [.bool], fun (p : (List (Int × Int × Bool × List Int)) × (List (Int × Int × Bool × List Int))) => f_laws_eqMsgS p.1 p.2⟩
noncomputable def f_laws_eqMsgS.l0.c : LoopCon := ⟨1000, 6, [0, 1, 4, 5], ⟨[(0, .bor none R5 []), (1, .bor none R5 []), (4, .bool false), (5, .int .i64 0)], [], 1000⟩, [(.sl R5), (.sl R5), .bool, (.int .i64)], [⟨.ret, [4], ⟨[(4, .bool false)], [], 1000⟩, [.bool]⟩, ⟨.exit 0, [4], ⟨[(4, .bool false)], [], 1000⟩, [.bool]⟩], fun (p : (List (Int × Int × Bool × List Int)) × (List (Int × Int × Bool × List Int)) × Bool × Int) => f_laws_eqMsgS.l0 N p.1 p.2.1 p.2.2.1 p.2.2.2⟩
noncomputable abbrev K27 : Cons := [(55, C55)]
noncomputable abbrev L27 : List (Nat × Loops) := [(27, [(4, f_laws_eqMsgS.l0.c)])]
abbrev Q27 : List (Nat × List (Int × Nat) × Nat) := []
noncomputable abbrev X27 : Nat → Ctx := ctxOf tb K27 L27 Q27
theorem f_laws_eqMsgS.l0.ok : ∀ n p, (fun (p : (List (Int × Int × Bool × List Int)) × (List (Int × Int × Bool × List Int)) × Bool × Int) => f_laws_eqMsgS.l0 n p.1 p.2.1 p.2.2.1 p.2.2.2) p = iterD (roundOf fs X27 6 27 4 false f_laws_eqMsgS.l0.c) n p :=
  iter_of (l := fun n => fun (p : (List (Int × Int × Bool × List Int)) × (List (Int × Int × Bool × List Int)) × Bool × Int) => f_laws_eqMsgS.l0 n p.1 p.2.1 p.2.2.1 p.2.2.2) (fun _ => rfl) (fun n p => by kernel_rfl)
theorem E27 : ∀ x, funRun fs X27 6 27 C27 x = C27.fn x := fun x => by kernel_rfl
theorem B27 : ConB Tryz.prog 27 C27 := ConB.make FS MIX TY (cons := K27) (L := L27) (ptrs := Q27) ⟨S55, trivial⟩ trivial ⟨⟨⟨N, fun p => f_laws_eqMsgS.l0.ok N p⟩, trivial⟩, trivial⟩ rfl rfl E27
theorem S27 : ConS Tryz.prog 27 C27 := B27.call rfl
/-! laws.eqSender: function 166 -/
noncomputable def f_laws_eqSender (x0 : Int) (x1 : List (Int × Int × Bool × List Int)) (x2 : Int) (x3 : List (Int × Int × Bool × List Int)) : Option (Bool) :=
  bif (!(decide (x0 = x2))) then
    some false
  else
    (f_laws_eqMsgS x1 x3).bind fun y636 =>
    bif (!y636) then
      some false
    else
      some true
noncomputable def C166 : Con := ⟨[(.B, true, [(.int .i64), (.sl R5)]), (.B, true, [(.int .i64), (.sl R5)])], [(false, [.bool])], [(.int .i64), (.sl R5), (.int .i64), (.sl R5)], [.bool], fun (p : Int × (List (Int × Int × Bool × List Int)) × Int × (List (Int × Int × Bool × List Int))) => f_laws_eqSender p.1 p.2.1 p.2.2.1 p.2.2.2⟩
noncomputable abbrev K166 : Cons := [(27, C27)]
noncomputable abbrev L166 : List (Nat × Loops) := []
abbrev Q166 : List (Nat × List (Int × Nat) × Nat) := []
noncomputable abbrev X166 : Nat → Ctx := ctxOf tb K166 L166 Q166
theorem E166 : ∀ x, funRun fs X166 6 166 C166 x = C166.fn x := fun x => by kernel_rfl
theorem B166 : ConB Tryz.prog 166 C166 := ConB.make FS MIX TY (cons := K166) (L := L166) (ptrs := Q166) ⟨S27, trivial⟩ trivial trivial rfl rfl E166
theorem S166 : ConS Tryz.prog 166 C166 := B166.call rfl
/-! laws.eqSenderS: function 89 -/
noncomputable def f_laws_eqSenderS.l0 : Nat → (List (Int × (List (Int × Int × Bool × List Int)))) → (List (Int × (List (Int × Int × Bool × List Int)))) → Bool → Int → Option ((Bool) ⊕ (Bool))
  | 0, _, _, _, _ => none
  | n + 1, p637, p638, p639, p640 =>
    bif (decide (p640 < (p637.length : Int))) then
      bif ((decide ((0 : Int) ≤ p640)) && (decide (p640 < (p637.length : Int)))) then
      bif ((decide ((0 : Int) ≤ p640)) && (decide (p640 < (p638.length : Int)))) then
      (f_laws_eqSender ((p637.getD p640.toNat (0, [])).1) ((p637.getD p640.toNat (0, [])).2) ((p638.getD p640.toNat (0, [])).1) ((p638.getD p640.toNat (0, [])).2)).bind fun y641 =>
      bif (!y641) then
        some (.inl false)
      else
        f_laws_eqSenderS.l0 n p637 p638 p639 (IntKind.wrap .i64 (p640 + (1 : Int)))
      else none
      else none
    else
      some (.inr p639)
noncomputable def f_laws_eqSenderS (x0 : List (Int × (List (Int × Int × Bool × List Int)))) (x1 : List (Int × (List (Int × Int × Bool × List Int)))) : Option (Bool) :=
  bif (!(decide ((x0.length : Int) = (x1.length : Int)))) then
    some false
  else
    (f_laws_eqSenderS.l0 N x0 x1 false 0).bind fun r642 =>
    cs r642 (fun a643 =>
      some a643) (fun b644 =>
      some true)
noncomputable def C89 : Con := ⟨[(.B, false, [(.sl R6)]), (.B, false, [(.sl R6)])], [(false, [.bool])], [(.sl R6), (.sl R6)], [.bool], fun (p : (List (Int × (List (Int × Int × Bool × List Int)))) × (List (Int × (List (Int × Int × Bool × List Int))))) => f_laws_eqSenderS p.1 p.2⟩
noncomputable def f_laws_eqSenderS.l0.c : LoopCon := ⟨1000, 6, [0, 1, 4, 5], ⟨[(0, .bor none R6 []), (1, .bor none R6 []), (4, .bool false), (5, .int .i64 0)], [], 1000⟩, [(.sl R6), (.sl R6), .bool, (.int .i64)], [⟨.ret, [4], ⟨[(4, .bool false)], [], 1000⟩, [.bool]⟩, ⟨.exit 0, [4], ⟨[(4, .bool false)], [], 1000⟩, [.bool]⟩], fun (p : (List (Int × (List (Int × Int × Bool × List Int)))) × (List (Int × (List (Int × Int × Bool × List Int)))) × Bool × Int) => f_laws_eqSenderS.l0 N p.1 p.2.1 p.2.2.1 p.2.2.2⟩
noncomputable abbrev K89 : Cons := [(166, C166)]
noncomputable abbrev L89 : List (Nat × Loops) := [(89, [(4, f_laws_eqSenderS.l0.c)])]
abbrev Q89 : List (Nat × List (Int × Nat) × Nat) := []
noncomputable abbrev X89 : Nat → Ctx := ctxOf tb K89 L89 Q89
theorem f_laws_eqSenderS.l0.ok : ∀ n p, (fun (p : (List (Int × (List (Int × Int × Bool × List Int)))) × (List (Int × (List (Int × Int × Bool × List Int)))) × Bool × Int) => f_laws_eqSenderS.l0 n p.1 p.2.1 p.2.2.1 p.2.2.2) p = iterD (roundOf fs X89 6 89 4 false f_laws_eqSenderS.l0.c) n p :=
  iter_of (l := fun n => fun (p : (List (Int × (List (Int × Int × Bool × List Int)))) × (List (Int × (List (Int × Int × Bool × List Int)))) × Bool × Int) => f_laws_eqSenderS.l0 n p.1 p.2.1 p.2.2.1 p.2.2.2) (fun _ => rfl) (fun n p => by kernel_rfl)
theorem E89 : ∀ x, funRun fs X89 6 89 C89 x = C89.fn x := fun x => by kernel_rfl
theorem B89 : ConB Tryz.prog 89 C89 := ConB.make FS MIX TY (cons := K89) (L := L89) (ptrs := Q89) ⟨S166, trivial⟩ trivial ⟨⟨⟨N, fun p => f_laws_eqSenderS.l0.ok N p⟩, trivial⟩, trivial⟩ rfl rfl E89
theorem S89 : ConS Tryz.prog 89 C89 := B89.call rfl
/-! laws.eqReceiver: function 167 -/
noncomputable def f_laws_eqReceiver (x0 : Int) (x1 : Int) : Option (Bool) :=
  bif (!(decide (x0 = x1))) then
    some false
  else
    some true
noncomputable def C167 : Con := ⟨[(.B, true, [(.int .i64)]), (.B, true, [(.int .i64)])], [(false, [.bool])], [(.int .i64), (.int .i64)], [.bool], fun (p : Int × Int) => f_laws_eqReceiver p.1 p.2⟩
noncomputable abbrev K167 : Cons := []
noncomputable abbrev L167 : List (Nat × Loops) := []
abbrev Q167 : List (Nat × List (Int × Nat) × Nat) := []
noncomputable abbrev X167 : Nat → Ctx := ctxOf tb K167 L167 Q167
theorem E167 : ∀ x, funRun fs X167 6 167 C167 x = C167.fn x := fun x => by kernel_rfl
theorem B167 : ConB Tryz.prog 167 C167 := ConB.make FS MIX TY (cons := K167) (L := L167) (ptrs := Q167) trivial trivial trivial rfl rfl E167
theorem S167 : ConS Tryz.prog 167 C167 := B167.call rfl
/-! laws.eqReceiverS: function 90 -/
noncomputable def f_laws_eqReceiverS.l0 : Nat → (List Int) → (List Int) → Bool → Int → Option ((Bool) ⊕ (Bool))
  | 0, _, _, _, _ => none
  | n + 1, p645, p646, p647, p648 =>
    bif (decide (p648 < (p645.length : Int))) then
      bif ((decide ((0 : Int) ≤ p648)) && (decide (p648 < (p645.length : Int)))) then
      bif ((decide ((0 : Int) ≤ p648)) && (decide (p648 < (p646.length : Int)))) then
      (f_laws_eqReceiver (p645.getD p648.toNat 0) (p646.getD p648.toNat 0)).bind fun y649 =>
      bif (!y649) then
        some (.inl false)
      else
        f_laws_eqReceiverS.l0 n p645 p646 p647 (IntKind.wrap .i64 (p648 + (1 : Int)))
      else none
      else none
    else
      some (.inr p647)
noncomputable def f_laws_eqReceiverS (x0 : List Int) (x1 : List Int) : Option (Bool) :=
  bif (!(decide ((x0.length : Int) = (x1.length : Int)))) then
    some false
  else
    (f_laws_eqReceiverS.l0 N x0 x1 false 0).bind fun r650 =>
    cs r650 (fun a651 =>
      some a651) (fun b652 =>
      some true)
noncomputable def C90 : Con := ⟨[(.B, false, [(.sl R0)]), (.B, false, [(.sl R0)])], [(false, [.bool])], [(.sl R0), (.sl R0)], [.bool], fun (p : List Int × List Int) => f_laws_eqReceiverS p.1 p.2⟩
noncomputable def f_laws_eqReceiverS.l0.c : LoopCon := ⟨1000, 6, [0, 1, 4, 5], ⟨[(0, .bor none R0 []), (1, .bor none R0 []), (4, .bool false), (5, .int .i64 0)], [], 1000⟩, [(.sl R0), (.sl R0), .bool, (.int .i64)], [⟨.ret, [4], ⟨[(4, .bool false)], [], 1000⟩, [.bool]⟩, ⟨.exit 0, [4], ⟨[(4, .bool false)], [], 1000⟩, [.bool]⟩], fun (p : List Int × List Int × Bool × Int) => f_laws_eqReceiverS.l0 N p.1 p.2.1 p.2.2.1 p.2.2.2⟩
noncomputable abbrev K90 : Cons := [(167, C167)]
noncomputable abbrev L90 : List (Nat × Loops) := [(90, [(4, f_laws_eqReceiverS.l0.c)])]
abbrev Q90 : List (Nat × List (Int × Nat) × Nat) := []
noncomputable abbrev X90 : Nat → Ctx := ctxOf tb K90 L90 Q90
theorem f_laws_eqReceiverS.l0.ok : ∀ n p, (fun (p : List Int × List Int × Bool × Int) => f_laws_eqReceiverS.l0 n p.1 p.2.1 p.2.2.1 p.2.2.2) p = iterD (roundOf fs X90 6 90 4 false f_laws_eqReceiverS.l0.c) n p :=
  iter_of (l := fun n => fun (p : List Int × List Int × Bool × Int) => f_laws_eqReceiverS.l0 n p.1 p.2.1 p.2.2.1 p.2.2.2) (fun _ => rfl) (fun n p => by kernel_rfl)
theorem E90 : ∀ x, funRun fs X90 6 90 C90 x = C90.fn x := fun x => by kernel_rfl
theorem B90 : ConB Tryz.prog 90 C90 := ConB.make FS MIX TY (cons := K90) (L := L90) (ptrs := Q90) ⟨S167, trivial⟩ trivial ⟨⟨⟨N, fun p => f_laws_eqReceiverS.l0.ok N p⟩, trivial⟩, trivial⟩ rfl rfl E90
theorem S90 : ConS Tryz.prog 90 C90 := B90.call rfl
/-! laws.eqNode: function 22 -/
noncomputable def f_laws_eqNode (x0 : Int) (x1 : List (Int × List Int × Bool)) (x2 : List (List Int × Int × List Bool × Bool × Int × Bool × Int × (List (Int × Bool)))) (x3 : List (Int × (List (Int × Int × Bool × List Int)))) (x4 : List Int) (x5 : Int) (x6 : List (Int × List Int × Bool)) (x7 : List (List Int × Int × List Bool × Bool × Int × Bool × Int × (List (Int × Bool)))) (x8 : List (Int × (List (Int × Int × Bool × List Int)))) (x9 : List Int) : Option (Bool) :=
  bif (!(decide (x0 = x5))) then
    some false
  else
    (f_laws_eqFrameS x1 x6).bind fun y653 =>
    bif (!y653) then
      some false
    else
      (f_laws_eqHomeS x2 x7).bind fun y654 =>
      bif (!y654) then
        some false
      else
        (f_laws_eqSenderS x3 x8).bind fun y655 =>
        bif (!y655) then
          some false
        else
          (f_laws_eqReceiverS x4 x9).bind fun y656 =>
          bif (!y656) then
            some false
          else
            some true
noncomputable def C22 : Con := ⟨[(.B, true, [(.int .i64), (.sl R1), (.sl R4), (.sl R6), (.sl R0)]), (.B, true, [(.int .i64), (.sl R1), (.sl R4), (.sl R6), (.sl R0)])], [(false, [.bool])], [(.int .i64), (.sl R1), (.sl R4), (.sl R6), (.sl R0), (.int .i64), (.sl R1), (.sl R4), (.sl R6), (.sl R0)], [.bool], fun (p : Int × (List (Int × List Int × Bool)) × (List (List Int × Int × List Bool × Bool × Int × Bool × Int × (List (Int × Bool)))) × (List (Int × (List (Int × Int × Bool × List Int)))) × List Int × Int × (List (Int × List Int × Bool)) × (List (List Int × Int × List Bool × Bool × Int × Bool × Int × (List (Int × Bool)))) × (List (Int × (List (Int × Int × Bool × List Int)))) × List Int) => f_laws_eqNode p.1 p.2.1 p.2.2.1 p.2.2.2.1 p.2.2.2.2.1 p.2.2.2.2.2.1 p.2.2.2.2.2.2.1 p.2.2.2.2.2.2.2.1 p.2.2.2.2.2.2.2.2.1 p.2.2.2.2.2.2.2.2.2⟩
noncomputable abbrev K22 : Cons := [(87, C87), (88, C88), (89, C89), (90, C90)]
noncomputable abbrev L22 : List (Nat × Loops) := []
abbrev Q22 : List (Nat × List (Int × Nat) × Nat) := []
noncomputable abbrev X22 : Nat → Ctx := ctxOf tb K22 L22 Q22
theorem E22 : ∀ x, funRun fs X22 6 22 C22 x = C22.fn x := fun x => by kernel_rfl
theorem B22 : ConB Tryz.prog 22 C22 := ConB.make FS MIX TY (cons := K22) (L := L22) (ptrs := Q22) ⟨S87, S88, S89, S90, trivial⟩ trivial trivial rfl rfl E22
theorem S22 : ConS Tryz.prog 22 C22 := B22.call rfl
/-! laws.markIntS: function 40 -/
noncomputable def f_laws_markIntS.l0 : Nat → Int → Int → Int → (List Int) → Option (Int × Int × List Int)
  | 0, _, _, _, _ => none
  | n + 1, p657, p658, p659, p660 =>
    bif (decide (p659 < (p660.length : Int))) then
      bif ((decide ((0 : Int) ≤ p659)) && (decide (p659 < (p660.length : Int)))) then
      (some ((p660.set p659.toNat p657) : List Int)).bind fun z661 =>
      f_laws_markIntS.l0 n (IntKind.wrap .i64 (p657 + (1 : Int))) p658 (IntKind.wrap .i64 (p659 + (1 : Int))) z661
      else none
    else
      some (p657, p658, p660)
noncomputable def f_laws_markIntS (x0 : List Int) (x1 : Int) : Option (Int × List Int) :=
  (f_laws_markIntS.l0 N x1 0 0 x0).bind fun r662 =>
  some (r662.1, r662.2.2)
noncomputable def C40 : Con := ⟨[(.I, false, [(.sl R0)]), (.B, false, [(.int .i64)])], [(false, [(.int .i64)])], [(.sl R0), (.int .i64)], [(.int .i64), (.sl R0)], fun (p : List Int × Int) => f_laws_markIntS p.1 p.2⟩
noncomputable def f_laws_markIntS.l0.c : LoopCon := ⟨1000, 6, [0, 1, 4, 5], ⟨[(0, .ref 0 [] none), (1, .int .i64 0), (4, .int .i64 0), (5, .int .i64 0)], [(0, .row R0 [])], 1000⟩, [(.int .i64), (.int .i64), (.int .i64), (.sl R0)], [⟨.exit 0, [1, 4], ⟨[(1, .int .i64 0), (4, .int .i64 0)], [(0, .row R0 [])], 1000⟩, [(.int .i64), (.int .i64), (.sl R0)]⟩], fun (p : Int × Int × Int × List Int) => f_laws_markIntS.l0 N p.1 p.2.1 p.2.2.1 p.2.2.2⟩
noncomputable abbrev K40 : Cons := []
noncomputable abbrev L40 : List (Nat × Loops) := [(40, [(2, f_laws_markIntS.l0.c)])]
abbrev Q40 : List (Nat × List (Int × Nat) × Nat) := []
noncomputable abbrev X40 : Nat → Ctx := ctxOf tb K40 L40 Q40
theorem f_laws_markIntS.l0.ok : ∀ n p, (fun (p : Int × Int × Int × List Int) => f_laws_markIntS.l0 n p.1 p.2.1 p.2.2.1 p.2.2.2) p = iterD (roundOf fs X40 6 40 2 false f_laws_markIntS.l0.c) n p :=
  iter_of (l := fun n => fun (p : Int × Int × Int × List Int) => f_laws_markIntS.l0 n p.1 p.2.1 p.2.2.1 p.2.2.2) (fun _ => rfl) (fun n p => by kernel_rfl)
theorem E40 : ∀ x, funG fs X40 6 40 C40 x = C40.fn x := fun x => by kernel_rfl
theorem B40 : ConG Tryz.prog 40 C40 := ConG.make FS MIX TY (cons := K40) (L := L40) (ptrs := Q40) trivial trivial ⟨⟨⟨N, fun p => f_laws_markIntS.l0.ok N p⟩, trivial⟩, trivial⟩ rfl (by kernel_rfl) E40
theorem S40 : ConS Tryz.prog 40 C40 := B40.call (by kernel_rfl)
/-! laws.markFrameS: function 91 -/
noncomputable def f_laws_markFrameS.l0 : Nat → Int → Int → Int → (List (Int × List Int × Bool)) → Option (Int × Int × (List (Int × List Int × Bool)))
  | 0, _, _, _, _ => none
  | n + 1, p663, p664, p665, p666 =>
    bif (decide (p665 < (p666.length : Int))) then
      bif ((decide ((0 : Int) ≤ p665)) && (decide (p665 < (p666.length : Int)))) then
      (some ((p666.set p665.toNat (p663, (p666.getD p665.toNat (0, [], false)).2.1, (p666.getD p665.toNat (0, [], false)).2.2)) : List (Int × List Int × Bool))).bind fun z667 =>
      bif ((decide ((0 : Int) ≤ p665)) && (decide (p665 < (z667.length : Int)))) then
      (f_laws_markIntS ((z667.getD p665.toNat (0, [], false)).2.1) (IntKind.wrap .i64 (p663 + (1 : Int)))).bind fun y668 =>
      (some ((z667.set p665.toNat ((z667.getD p665.toNat (0, [], false)).1, y668.2, (z667.getD p665.toNat (0, [], false)).2.2)) : List (Int × List Int × Bool))).bind fun z669 =>
      bif ((decide ((0 : Int) ≤ p665)) && (decide (p665 < (z669.length : Int)))) then
      (some ((z669.set p665.toNat ((z669.getD p665.toNat (0, [], false)).1, (z669.getD p665.toNat (0, [], false)).2.1, (decide ((Int.tmod y668.1 (3 : Int)) = (0 : Int))))) : List (Int × List Int × Bool))).bind fun z670 =>
      f_laws_markFrameS.l0 n (IntKind.wrap .i64 (y668.1 + (1 : Int))) p664 (IntKind.wrap .i64 (p665 + (1 : Int))) z670
      else none
      else none
      else none
    else
      some (p663, p664, p666)
noncomputable def f_laws_markFrameS (x0 : List (Int × List Int × Bool)) (x1 : Int) : Option (Int × (List (Int × List Int × Bool))) :=
  (f_laws_markFrameS.l0 N x1 0 0 x0).bind fun r671 =>
  some (r671.1, r671.2.2)
noncomputable def C91 : Con := ⟨[(.I, false, [(.sl R1)]), (.B, false, [(.int .i64)])], [(false, [(.int .i64)])], [(.sl R1), (.int .i64)], [(.int .i64), (.sl R1)], fun (p : (List (Int × List Int × Bool)) × Int) => f_laws_markFrameS p.1 p.2⟩
noncomputable def f_laws_markFrameS.l0.c : LoopCon := ⟨1000, 6, [0, 1, 4, 5], ⟨[(0, .ref 0 [] none), (1, .int .i64 0), (4, .int .i64 0), (5, .int .i64 0)], [(0, .row R1 [])], 1000⟩, [(.int .i64), (.int .i64), (.int .i64), (.sl R1)], [⟨.exit 0, [1, 4], ⟨[(1, .int .i64 0), (4, .int .i64 0)], [(0, .row R1 [])], 1000⟩, [(.int .i64), (.int .i64), (.sl R1)]⟩], fun (p : Int × Int × Int × (List (Int × List Int × Bool))) => f_laws_markFrameS.l0 N p.1 p.2.1 p.2.2.1 p.2.2.2⟩
noncomputable abbrev K91 : Cons := [(40, C40)]
noncomputable abbrev L91 : List (Nat × Loops) := [(91, [(2, f_laws_markFrameS.l0.c)])]
abbrev Q91 : List (Nat × List (Int × Nat) × Nat) := []
noncomputable abbrev X91 : Nat → Ctx := ctxOf tb K91 L91 Q91
theorem f_laws_markFrameS.l0.ok : ∀ n p, (fun (p : Int × Int × Int × (List (Int × List Int × Bool))) => f_laws_markFrameS.l0 n p.1 p.2.1 p.2.2.1 p.2.2.2) p = iterD (roundOf fs X91 6 91 2 false f_laws_markFrameS.l0.c) n p :=
  iter_of (l := fun n => fun (p : Int × Int × Int × (List (Int × List Int × Bool))) => f_laws_markFrameS.l0 n p.1 p.2.1 p.2.2.1 p.2.2.2) (fun _ => rfl) (fun n p => by kernel_rfl)
theorem E91 : ∀ x, funG fs X91 6 91 C91 x = C91.fn x := fun x => by kernel_rfl
theorem B91 : ConG Tryz.prog 91 C91 := ConG.make FS MIX TY (cons := K91) (L := L91) (ptrs := Q91) ⟨S40, trivial⟩ trivial ⟨⟨⟨N, fun p => f_laws_markFrameS.l0.ok N p⟩, trivial⟩, trivial⟩ rfl (by kernel_rfl) E91
theorem S91 : ConS Tryz.prog 91 C91 := B91.call (by kernel_rfl)
/-! laws.markBoolS: function 168 -/
noncomputable def f_laws_markBoolS.l0 : Nat → Int → Int → Int → (List Bool) → Option (Int × Int × List Bool)
  | 0, _, _, _, _ => none
  | n + 1, p672, p673, p674, p675 =>
    bif (decide (p674 < (p675.length : Int))) then
      bif ((decide ((0 : Int) ≤ p674)) && (decide (p674 < (p675.length : Int)))) then
      (some ((p675.set p674.toNat (decide ((Int.tmod p672 (3 : Int)) = (0 : Int)))) : List Bool)).bind fun z676 =>
      f_laws_markBoolS.l0 n (IntKind.wrap .i64 (p672 + (1 : Int))) p673 (IntKind.wrap .i64 (p674 + (1 : Int))) z676
      else none
    else
      some (p672, p673, p675)
noncomputable def f_laws_markBoolS (x0 : List Bool) (x1 : Int) : Option (Int × List Bool) :=
  (f_laws_markBoolS.l0 N x1 0 0 x0).bind fun r677 =>
  some (r677.1, r677.2.2)
noncomputable def C168 : Con := ⟨[(.I, false, [(.sl R2)]), (.B, false, [(.int .i64)])], [(false, [(.int .i64)])], [(.sl R2), (.int .i64)], [(.int .i64), (.sl R2)], fun (p : List Bool × Int) => f_laws_markBoolS p.1 p.2⟩
noncomputable def f_laws_markBoolS.l0.c : LoopCon := ⟨1000, 6, [0, 1, 4, 5], ⟨[(0, .ref 0 [] none), (1, .int .i64 0), (4, .int .i64 0), (5, .int .i64 0)], [(0, .row R2 [])], 1000⟩, [(.int .i64), (.int .i64), (.int .i64), (.sl R2)], [⟨.exit 0, [1, 4], ⟨[(1, .int .i64 0), (4, .int .i64 0)], [(0, .row R2 [])], 1000⟩, [(.int .i64), (.int .i64), (.sl R2)]⟩], fun (p : Int × Int × Int × List Bool) => f_laws_markBoolS.l0 N p.1 p.2.1 p.2.2.1 p.2.2.2⟩
noncomputable abbrev K168 : Cons := []
noncomputable abbrev L168 : List (Nat × Loops) := [(168, [(2, f_laws_markBoolS.l0.c)])]
abbrev Q168 : List (Nat × List (Int × Nat) × Nat) := []
noncomputable abbrev X168 : Nat → Ctx := ctxOf tb K168 L168 Q168
theorem f_laws_markBoolS.l0.ok : ∀ n p, (fun (p : Int × Int × Int × List Bool) => f_laws_markBoolS.l0 n p.1 p.2.1 p.2.2.1 p.2.2.2) p = iterD (roundOf fs X168 6 168 2 false f_laws_markBoolS.l0.c) n p :=
  iter_of (l := fun n => fun (p : Int × Int × Int × List Bool) => f_laws_markBoolS.l0 n p.1 p.2.1 p.2.2.1 p.2.2.2) (fun _ => rfl) (fun n p => by kernel_rfl)
theorem E168 : ∀ x, funG fs X168 6 168 C168 x = C168.fn x := fun x => by kernel_rfl
theorem B168 : ConG Tryz.prog 168 C168 := ConG.make FS MIX TY (cons := K168) (L := L168) (ptrs := Q168) trivial trivial ⟨⟨⟨N, fun p => f_laws_markBoolS.l0.ok N p⟩, trivial⟩, trivial⟩ rfl (by kernel_rfl) E168
theorem S168 : ConS Tryz.prog 168 C168 := B168.call (by kernel_rfl)
/-! laws.markWaitS: function 169 -/
noncomputable def f_laws_markWaitS.l0 : Nat → Int → Int → Int → (List (Int × Bool)) → Option (Int × Int × (List (Int × Bool)))
  | 0, _, _, _, _ => none
  | n + 1, p678, p679, p680, p681 =>
    bif (decide (p680 < (p681.length : Int))) then
      bif ((decide ((0 : Int) ≤ p680)) && (decide (p680 < (p681.length : Int)))) then
      (some ((p681.set p680.toNat (p678, (p681.getD p680.toNat (0, false)).2)) : List (Int × Bool))).bind fun z682 =>
      bif ((decide ((0 : Int) ≤ p680)) && (decide (p680 < (z682.length : Int)))) then
      (some ((z682.set p680.toNat ((z682.getD p680.toNat (0, false)).1, (decide ((Int.tmod (IntKind.wrap .i64 (p678 + (1 : Int))) (3 : Int)) = (0 : Int))))) : List (Int × Bool))).bind fun z683 =>
      f_laws_markWaitS.l0 n (IntKind.wrap .i64 ((IntKind.wrap .i64 (p678 + (1 : Int))) + (1 : Int))) p679 (IntKind.wrap .i64 (p680 + (1 : Int))) z683
      else none
      else none
    else
      some (p678, p679, p681)
noncomputable def f_laws_markWaitS (x0 : List (Int × Bool)) (x1 : Int) : Option (Int × (List (Int × Bool))) :=
  (f_laws_markWaitS.l0 N x1 0 0 x0).bind fun r684 =>
  some (r684.1, r684.2.2)
noncomputable def C169 : Con := ⟨[(.I, false, [(.sl R3)]), (.B, false, [(.int .i64)])], [(false, [(.int .i64)])], [(.sl R3), (.int .i64)], [(.int .i64), (.sl R3)], fun (p : (List (Int × Bool)) × Int) => f_laws_markWaitS p.1 p.2⟩
noncomputable def f_laws_markWaitS.l0.c : LoopCon := ⟨1000, 6, [0, 1, 4, 5], ⟨[(0, .ref 0 [] none), (1, .int .i64 0), (4, .int .i64 0), (5, .int .i64 0)], [(0, .row R3 [])], 1000⟩, [(.int .i64), (.int .i64), (.int .i64), (.sl R3)], [⟨.exit 0, [1, 4], ⟨[(1, .int .i64 0), (4, .int .i64 0)], [(0, .row R3 [])], 1000⟩, [(.int .i64), (.int .i64), (.sl R3)]⟩], fun (p : Int × Int × Int × (List (Int × Bool))) => f_laws_markWaitS.l0 N p.1 p.2.1 p.2.2.1 p.2.2.2⟩
noncomputable abbrev K169 : Cons := []
noncomputable abbrev L169 : List (Nat × Loops) := [(169, [(2, f_laws_markWaitS.l0.c)])]
abbrev Q169 : List (Nat × List (Int × Nat) × Nat) := []
noncomputable abbrev X169 : Nat → Ctx := ctxOf tb K169 L169 Q169
theorem f_laws_markWaitS.l0.ok : ∀ n p, (fun (p : Int × Int × Int × (List (Int × Bool))) => f_laws_markWaitS.l0 n p.1 p.2.1 p.2.2.1 p.2.2.2) p = iterD (roundOf fs X169 6 169 2 false f_laws_markWaitS.l0.c) n p :=
  iter_of (l := fun n => fun (p : Int × Int × Int × (List (Int × Bool))) => f_laws_markWaitS.l0 n p.1 p.2.1 p.2.2.1 p.2.2.2) (fun _ => rfl) (fun n p => by kernel_rfl)
theorem E169 : ∀ x, funG fs X169 6 169 C169 x = C169.fn x := fun x => by kernel_rfl
theorem B169 : ConG Tryz.prog 169 C169 := ConG.make FS MIX TY (cons := K169) (L := L169) (ptrs := Q169) trivial trivial ⟨⟨⟨N, fun p => f_laws_markWaitS.l0.ok N p⟩, trivial⟩, trivial⟩ rfl (by kernel_rfl) E169
theorem S169 : ConS Tryz.prog 169 C169 := B169.call (by kernel_rfl)
/-! laws.markHomeS: function 92 -/
noncomputable def f_laws_markHomeS.l0 : Nat → Int → Int → Int → (List (List Int × Int × List Bool × Bool × Int × Bool × Int × (List (Int × Bool)))) → Option (Int × Int × (List (List Int × Int × List Bool × Bool × Int × Bool × Int × (List (Int × Bool)))))
  | 0, _, _, _, _ => none
  | n + 1, p685, p686, p687, p688 =>
    bif (decide (p687 < (p688.length : Int))) then
      bif ((decide ((0 : Int) ≤ p687)) && (decide (p687 < (p688.length : Int)))) then
      (f_laws_markIntS ((p688.getD p687.toNat ([], 0, [], false, 0, false, 0, [])).1) p685).bind fun y689 =>
      (some ((p688.set p687.toNat (y689.2, (p688.getD p687.toNat ([], 0, [], false, 0, false, 0, [])).2.1, (p688.getD p687.toNat ([], 0, [], false, 0, false, 0, [])).2.2.1, (p688.getD p687.toNat ([], 0, [], false, 0, false, 0, [])).2.2.2.1, (p688.getD p687.toNat ([], 0, [], false, 0, false, 0, [])).2.2.2.2.1, (p688.getD p687.toNat ([], 0, [], false, 0, false, 0, [])).2.2.2.2.2.1, (p688.getD p687.toNat ([], 0, [], false, 0, false, 0, [])).2.2.2.2.2.2.1, (p688.getD p687.toNat ([], 0, [], false, 0, false, 0, [])).2.2.2.2.2.2.2)) : List (List Int × Int × List Bool × Bool × Int × Bool × Int × (List (Int × Bool))))).bind fun z690 =>
      bif ((decide ((0 : Int) ≤ p687)) && (decide (p687 < (z690.length : Int)))) then
      (some ((z690.set p687.toNat ((z690.getD p687.toNat ([], 0, [], false, 0, false, 0, [])).1, y689.1, (z690.getD p687.toNat ([], 0, [], false, 0, false, 0, [])).2.2.1, (z690.getD p687.toNat ([], 0, [], false, 0, false, 0, [])).2.2.2.1, (z690.getD p687.toNat ([], 0, [], false, 0, false, 0, [])).2.2.2.2.1, (z690.getD p687.toNat ([], 0, [], false, 0, false, 0, [])).2.2.2.2.2.1, (z690.getD p687.toNat ([], 0, [], false, 0, false, 0, [])).2.2.2.2.2.2.1, (z690.getD p687.toNat ([], 0, [], false, 0, false, 0, [])).2.2.2.2.2.2.2)) : List (List Int × Int × List Bool × Bool × Int × Bool × Int × (List (Int × Bool))))).bind fun z691 =>
      bif ((decide ((0 : Int) ≤ p687)) && (decide (p687 < (z691.length : Int)))) then
      (f_laws_markBoolS ((z691.getD p687.toNat ([], 0, [], false, 0, false, 0, [])).2.2.1) (IntKind.wrap .i64 (y689.1 + (1 : Int)))).bind fun y692 =>
      (some ((z691.set p687.toNat ((z691.getD p687.toNat ([], 0, [], false, 0, false, 0, [])).1, (z691.getD p687.toNat ([], 0, [], false, 0, false, 0, [])).2.1, y692.2, (z691.getD p687.toNat ([], 0, [], false, 0, false, 0, [])).2.2.2.1, (z691.getD p687.toNat ([], 0, [], false, 0, false, 0, [])).2.2.2.2.1, (z691.getD p687.toNat ([], 0, [], false, 0, false, 0, [])).2.2.2.2.2.1, (z691.getD p687.toNat ([], 0, [], false, 0, false, 0, [])).2.2.2.2.2.2.1, (z691.getD p687.toNat ([], 0, [], false, 0, false, 0, [])).2.2.2.2.2.2.2)) : List (List Int × Int × List Bool × Bool × Int × Bool × Int × (List (Int × Bool))))).bind fun z693 =>
      bif ((decide ((0 : Int) ≤ p687)) && (decide (p687 < (z693.length : Int)))) then
      (some ((z693.set p687.toNat ((z693.getD p687.toNat ([], 0, [], false, 0, false, 0, [])).1, (z693.getD p687.toNat ([], 0, [], false, 0, false, 0, [])).2.1, (z693.getD p687.toNat ([], 0, [], false, 0, false, 0, [])).2.2.1, (decide ((Int.tmod y692.1 (3 : Int)) = (0 : Int))), (z693.getD p687.toNat ([], 0, [], false, 0, false, 0, [])).2.2.2.2.1, (z693.getD p687.toNat ([], 0, [], false, 0, false, 0, [])).2.2.2.2.2.1, (z693.getD p687.toNat ([], 0, [], false, 0, false, 0, [])).2.2.2.2.2.2.1, (z693.getD p687.toNat ([], 0, [], false, 0, false, 0, [])).2.2.2.2.2.2.2)) : List (List Int × Int × List Bool × Bool × Int × Bool × Int × (List (Int × Bool))))).bind fun z694 =>
      bif ((decide ((0 : Int) ≤ p687)) && (decide (p687 < (z694.length : Int)))) then
      (some ((z694.set p687.toNat ((z694.getD p687.toNat ([], 0, [], false, 0, false, 0, [])).1, (z694.getD p687.toNat ([], 0, [], false, 0, false, 0, [])).2.1, (z694.getD p687.toNat ([], 0, [], false, 0, false, 0, [])).2.2.1, (z694.getD p687.toNat ([], 0, [], false, 0, false, 0, [])).2.2.2.1, (IntKind.wrap .i64 (y692.1 + (1 : Int))), (z694.getD p687.toNat ([], 0, [], false, 0, false, 0, [])).2.2.2.2.2.1, (z694.getD p687.toNat ([], 0, [], false, 0, false, 0, [])).2.2.2.2.2.2.1, (z694.getD p687.toNat ([], 0, [], false, 0, false, 0, [])).2.2.2.2.2.2.2)) : List (List Int × Int × List Bool × Bool × Int × Bool × Int × (List (Int × Bool))))).bind fun z695 =>
      bif ((decide ((0 : Int) ≤ p687)) && (decide (p687 < (z695.length : Int)))) then
      (some ((z695.set p687.toNat ((z695.getD p687.toNat ([], 0, [], false, 0, false, 0, [])).1, (z695.getD p687.toNat ([], 0, [], false, 0, false, 0, [])).2.1, (z695.getD p687.toNat ([], 0, [], false, 0, false, 0, [])).2.2.1, (z695.getD p687.toNat ([], 0, [], false, 0, false, 0, [])).2.2.2.1, (z695.getD p687.toNat ([], 0, [], false, 0, false, 0, [])).2.2.2.2.1, (decide ((Int.tmod (IntKind.wrap .i64 ((IntKind.wrap .i64 (y692.1 + (1 : Int))) + (1 : Int))) (3 : Int)) = (0 : Int))), (z695.getD p687.toNat ([], 0, [], false, 0, false, 0, [])).2.2.2.2.2.2.1, (z695.getD p687.toNat ([], 0, [], false, 0, false, 0, [])).2.2.2.2.2.2.2)) : List (List Int × Int × List Bool × Bool × Int × Bool × Int × (List (Int × Bool))))).bind fun z696 =>
      bif ((decide ((0 : Int) ≤ p687)) && (decide (p687 < (z696.length : Int)))) then
      (some ((z696.set p687.toNat ((z696.getD p687.toNat ([], 0, [], false, 0, false, 0, [])).1, (z696.getD p687.toNat ([], 0, [], false, 0, false, 0, [])).2.1, (z696.getD p687.toNat ([], 0, [], false, 0, false, 0, [])).2.2.1, (z696.getD p687.toNat ([], 0, [], false, 0, false, 0, [])).2.2.2.1, (z696.getD p687.toNat ([], 0, [], false, 0, false, 0, [])).2.2.2.2.1, (z696.getD p687.toNat ([], 0, [], false, 0, false, 0, [])).2.2.2.2.2.1, (IntKind.wrap .i64 ((IntKind.wrap .i64 ((IntKind.wrap .i64 (y692.1 + (1 : Int))) + (1 : Int))) + (1 : Int))), (z696.getD p687.toNat ([], 0, [], false, 0, false, 0, [])).2.2.2.2.2.2.2)) : List (List Int × Int × List Bool × Bool × Int × Bool × Int × (List (Int × Bool))))).bind fun z697 =>
      bif ((decide ((0 : Int) ≤ p687)) && (decide (p687 < (z697.length : Int)))) then
      (f_laws_markWaitS ((z697.getD p687.toNat ([], 0, [], false, 0, false, 0, [])).2.2.2.2.2.2.2) (IntKind.wrap .i64 ((IntKind.wrap .i64 ((IntKind.wrap .i64 ((IntKind.wrap .i64 (y692.1 + (1 : Int))) + (1 : Int))) + (1 : Int))) + (1 : Int)))).bind fun y698 =>
      (some ((z697.set p687.toNat ((z697.getD p687.toNat ([], 0, [], false, 0, false, 0, [])).1, (z697.getD p687.toNat ([], 0, [], false, 0, false, 0, [])).2.1, (z697.getD p687.toNat ([], 0, [], false, 0, false, 0, [])).2.2.1, (z697.getD p687.toNat ([], 0, [], false, 0, false, 0, [])).2.2.2.1, (z697.getD p687.toNat ([], 0, [], false, 0, false, 0, [])).2.2.2.2.1, (z697.getD p687.toNat ([], 0, [], false, 0, false, 0, [])).2.2.2.2.2.1, (z697.getD p687.toNat ([], 0, [], false, 0, false, 0, [])).2.2.2.2.2.2.1, y698.2)) : List (List Int × Int × List Bool × Bool × Int × Bool × Int × (List (Int × Bool))))).bind fun z699 =>
      f_laws_markHomeS.l0 n y698.1 p686 (IntKind.wrap .i64 (p687 + (1 : Int))) z699
      else none
      else none
      else none
      else none
      else none
      else none
      else none
      else none
    else
      some (p685, p686, p688)
noncomputable def f_laws_markHomeS (x0 : List (List Int × Int × List Bool × Bool × Int × Bool × Int × (List (Int × Bool)))) (x1 : Int) : Option (Int × (List (List Int × Int × List Bool × Bool × Int × Bool × Int × (List (Int × Bool))))) :=
  (f_laws_markHomeS.l0 N x1 0 0 x0).bind fun r700 =>
  some (r700.1, r700.2.2)
noncomputable def C92 : Con := ⟨[(.I, false, [(.sl R4)]), (.B, false, [(.int .i64)])], [(false, [(.int .i64)])], [(.sl R4), (.int .i64)], [(.int .i64), (.sl R4)], fun (p : (List (List Int × Int × List Bool × Bool × Int × Bool × Int × (List (Int × Bool)))) × Int) => f_laws_markHomeS p.1 p.2⟩
noncomputable def f_laws_markHomeS.l0.c : LoopCon := ⟨1000, 6, [0, 1, 4, 5], ⟨[(0, .ref 0 [] none), (1, .int .i64 0), (4, .int .i64 0), (5, .int .i64 0)], [(0, .row R4 [])], 1000⟩, [(.int .i64), (.int .i64), (.int .i64), (.sl R4)], [⟨.exit 0, [1, 4], ⟨[(1, .int .i64 0), (4, .int .i64 0)], [(0, .row R4 [])], 1000⟩, [(.int .i64), (.int .i64), (.sl R4)]⟩], fun (p : Int × Int × Int × (List (List Int × Int × List Bool × Bool × Int × Bool × Int × (List (Int × Bool))))) => f_laws_markHomeS.l0 N p.1 p.2.1 p.2.2.1 p.2.2.2⟩
noncomputable abbrev K92 : Cons := [(40, C40), (168, C168), (169, C169)]
noncomputable abbrev L92 : List (Nat × Loops) := [(92, [(2, f_laws_markHomeS.l0.c)])]
abbrev Q92 : List (Nat × List (Int × Nat) × Nat) := []
noncomputable abbrev X92 : Nat → Ctx := ctxOf tb K92 L92 Q92
theorem f_laws_markHomeS.l0.ok : ∀ n p, (fun (p : Int × Int × Int × (List (List Int × Int × List Bool × Bool × Int × Bool × Int × (List (Int × Bool))))) => f_laws_markHomeS.l0 n p.1 p.2.1 p.2.2.1 p.2.2.2) p = iterD (roundOf fs X92 6 92 2 false f_laws_markHomeS.l0.c) n p :=
  iter_of (l := fun n => fun (p : Int × Int × Int × (List (List Int × Int × List Bool × Bool × Int × Bool × Int × (List (Int × Bool))))) => f_laws_markHomeS.l0 n p.1 p.2.1 p.2.2.1 p.2.2.2) (fun _ => rfl) (fun n p => by kernel_rfl)
theorem E92 : ∀ x, funG fs X92 6 92 C92 x = C92.fn x := fun x => by kernel_rfl
theorem B92 : ConG Tryz.prog 92 C92 := ConG.make FS MIX TY (cons := K92) (L := L92) (ptrs := Q92) ⟨S40, S168, S169, trivial⟩ trivial ⟨⟨⟨N, fun p => f_laws_markHomeS.l0.ok N p⟩, trivial⟩, trivial⟩ rfl (by kernel_rfl) E92
theorem S92 : ConS Tryz.prog 92 C92 := B92.call (by kernel_rfl)
/-! laws.markMsgS: function 29 -/
noncomputable def f_laws_markMsgS.l0 : Nat → Int → Int → Int → (List (Int × Int × Bool × List Int)) → Option (Int × Int × (List (Int × Int × Bool × List Int)))
  | 0, _, _, _, _ => none
  | n + 1, p701, p702, p703, p704 =>
    bif (decide (p703 < (p704.length : Int))) then
      bif ((decide ((0 : Int) ≤ p703)) && (decide (p703 < (p704.length : Int)))) then
      (some ((p704.set p703.toNat (p701, (p704.getD p703.toNat (0, 0, false, [])).2.1, (p704.getD p703.toNat (0, 0, false, [])).2.2.1, (p704.getD p703.toNat (0, 0, false, [])).2.2.2)) : List (Int × Int × Bool × List Int))).bind fun z705 =>
      bif ((decide ((0 : Int) ≤ p703)) && (decide (p703 < (z705.length : Int)))) then
      (some ((z705.set p703.toNat ((z705.getD p703.toNat (0, 0, false, [])).1, (IntKind.wrap .i64 (p701 + (1 : Int))), (z705.getD p703.toNat (0, 0, false, [])).2.2.1, (z705.getD p703.toNat (0, 0, false, [])).2.2.2)) : List (Int × Int × Bool × List Int))).bind fun z706 =>
      bif ((decide ((0 : Int) ≤ p703)) && (decide (p703 < (z706.length : Int)))) then
      (some ((z706.set p703.toNat ((z706.getD p703.toNat (0, 0, false, [])).1, (z706.getD p703.toNat (0, 0, false, [])).2.1, (decide ((Int.tmod (IntKind.wrap .i64 ((IntKind.wrap .i64 (p701 + (1 : Int))) + (1 : Int))) (3 : Int)) = (0 : Int))), (z706.getD p703.toNat (0, 0, false, [])).2.2.2)) : List (Int × Int × Bool × List Int))).bind fun z707 =>
      bif ((decide ((0 : Int) ≤ p703)) && (decide (p703 < (z707.length : Int)))) then
      (f_laws_markIntS ((z707.getD p703.toNat (0, 0, false, [])).2.2.2) (IntKind.wrap .i64 ((IntKind.wrap .i64 ((IntKind.wrap .i64 (p701 + (1 : Int))) + (1 : Int))) + (1 : Int)))).bind fun y708 =>
      (some ((z707.set p703.toNat ((z707.getD p703.toNat (0, 0, false, [])).1, (z707.getD p703.toNat (0, 0, false, [])).2.1, (z707.getD p703.toNat (0, 0, false, [])).2.2.1, y708.2)) : List (Int × Int × Bool × List Int))).bind fun z709 =>
      f_laws_markMsgS.l0 n y708.1 p702 (IntKind.wrap .i64 (p703 + (1 : Int))) z709
      else none
      else none
      else none
      else none
    else
      some (p701, p702, p704)
noncomputable def f_laws_markMsgS (x0 : List (Int × Int × Bool × List Int)) (x1 : Int) : Option (Int × (List (Int × Int × Bool × List Int))) :=
  (f_laws_markMsgS.l0 N x1 0 0 x0).bind fun r710 =>
  some (r710.1, r710.2.2)
noncomputable def C29 : Con := ⟨[(.I, false, [(.sl R5)]), (.B, false, [(.int .i64)])], [(false, [(.int .i64)])], [(.sl R5), (.int .i64)], [(.int .i64), (.sl R5)], fun (p : (List (Int × Int × Bool × List Int)) × Int) => f_laws_markMsgS p.1 p.2⟩
noncomputable def f_laws_markMsgS.l0.c : LoopCon := ⟨1000, 6, [0, 1, 4, 5], ⟨[(0, .ref 0 [] none), (1, .int .i64 0), (4, .int .i64 0), (5, .int .i64 0)], [(0, .row R5 [])], 1000⟩, [(.int .i64), (.int .i64), (.int .i64), (.sl R5)], [⟨.exit 0, [1, 4], ⟨[(1, .int .i64 0), (4, .int .i64 0)], [(0, .row R5 [])], 1000⟩, [(.int .i64), (.int .i64), (.sl R5)]⟩], fun (p : Int × Int × Int × (List (Int × Int × Bool × List Int))) => f_laws_markMsgS.l0 N p.1 p.2.1 p.2.2.1 p.2.2.2⟩
noncomputable abbrev K29 : Cons := [(40, C40)]
noncomputable abbrev L29 : List (Nat × Loops) := [(29, [(2, f_laws_markMsgS.l0.c)])]
abbrev Q29 : List (Nat × List (Int × Nat) × Nat) := []
noncomputable abbrev X29 : Nat → Ctx := ctxOf tb K29 L29 Q29
theorem f_laws_markMsgS.l0.ok : ∀ n p, (fun (p : Int × Int × Int × (List (Int × Int × Bool × List Int))) => f_laws_markMsgS.l0 n p.1 p.2.1 p.2.2.1 p.2.2.2) p = iterD (roundOf fs X29 6 29 2 false f_laws_markMsgS.l0.c) n p :=
  iter_of (l := fun n => fun (p : Int × Int × Int × (List (Int × Int × Bool × List Int))) => f_laws_markMsgS.l0 n p.1 p.2.1 p.2.2.1 p.2.2.2) (fun _ => rfl) (fun n p => by kernel_rfl)
theorem E29 : ∀ x, funG fs X29 6 29 C29 x = C29.fn x := fun x => by kernel_rfl
theorem B29 : ConG Tryz.prog 29 C29 := ConG.make FS MIX TY (cons := K29) (L := L29) (ptrs := Q29) ⟨S40, trivial⟩ trivial ⟨⟨⟨N, fun p => f_laws_markMsgS.l0.ok N p⟩, trivial⟩, trivial⟩ rfl (by kernel_rfl) E29
theorem S29 : ConS Tryz.prog 29 C29 := B29.call (by kernel_rfl)
/-! laws.markSenderS: function 93 -/
noncomputable def f_laws_markSenderS.l0 : Nat → Int → Int → Int → (List (Int × (List (Int × Int × Bool × List Int)))) → Option (Int × Int × (List (Int × (List (Int × Int × Bool × List Int)))))
  | 0, _, _, _, _ => none
  | n + 1, p711, p712, p713, p714 =>
    bif (decide (p713 < (p714.length : Int))) then
      bif ((decide ((0 : Int) ≤ p713)) && (decide (p713 < (p714.length : Int)))) then
      (some ((p714.set p713.toNat (p711, (p714.getD p713.toNat (0, [])).2)) : List (Int × (List (Int × Int × Bool × List Int))))).bind fun z715 =>
      bif ((decide ((0 : Int) ≤ p713)) && (decide (p713 < (z715.length : Int)))) then
      (f_laws_markMsgS ((z715.getD p713.toNat (0, [])).2) (IntKind.wrap .i64 (p711 + (1 : Int)))).bind fun y716 =>
      (some ((z715.set p713.toNat ((z715.getD p713.toNat (0, [])).1, y716.2)) : List (Int × (List (Int × Int × Bool × List Int))))).bind fun z717 =>
      f_laws_markSenderS.l0 n y716.1 p712 (IntKind.wrap .i64 (p713 + (1 : Int))) z717
      else none
      else none
    else
      some (p711, p712, p714)
noncomputable def f_laws_markSenderS (x0 : List (Int × (List (Int × Int × Bool × List Int)))) (x1 : Int) : Option (Int × (List (Int × (List (Int × Int × Bool × List Int))))) :=
  (f_laws_markSenderS.l0 N x1 0 0 x0).bind fun r718 =>
  some (r718.1, r718.2.2)
noncomputable def C93 : Con := ⟨[(.I, false, [(.sl R6)]), (.B, false, [(.int .i64)])], [(false, [(.int .i64)])], [(.sl R6), (.int .i64)], [(.int .i64), (.sl R6)], fun (p : (List (Int × (List (Int × Int × Bool × List Int)))) × Int) => f_laws_markSenderS p.1 p.2⟩
noncomputable def f_laws_markSenderS.l0.c : LoopCon := ⟨1000, 6, [0, 1, 4, 5], ⟨[(0, .ref 0 [] none), (1, .int .i64 0), (4, .int .i64 0), (5, .int .i64 0)], [(0, .row R6 [])], 1000⟩, [(.int .i64), (.int .i64), (.int .i64), (.sl R6)], [⟨.exit 0, [1, 4], ⟨[(1, .int .i64 0), (4, .int .i64 0)], [(0, .row R6 [])], 1000⟩, [(.int .i64), (.int .i64), (.sl R6)]⟩], fun (p : Int × Int × Int × (List (Int × (List (Int × Int × Bool × List Int))))) => f_laws_markSenderS.l0 N p.1 p.2.1 p.2.2.1 p.2.2.2⟩
noncomputable abbrev K93 : Cons := [(29, C29)]
noncomputable abbrev L93 : List (Nat × Loops) := [(93, [(2, f_laws_markSenderS.l0.c)])]
abbrev Q93 : List (Nat × List (Int × Nat) × Nat) := []
noncomputable abbrev X93 : Nat → Ctx := ctxOf tb K93 L93 Q93
theorem f_laws_markSenderS.l0.ok : ∀ n p, (fun (p : Int × Int × Int × (List (Int × (List (Int × Int × Bool × List Int))))) => f_laws_markSenderS.l0 n p.1 p.2.1 p.2.2.1 p.2.2.2) p = iterD (roundOf fs X93 6 93 2 false f_laws_markSenderS.l0.c) n p :=
  iter_of (l := fun n => fun (p : Int × Int × Int × (List (Int × (List (Int × Int × Bool × List Int))))) => f_laws_markSenderS.l0 n p.1 p.2.1 p.2.2.1 p.2.2.2) (fun _ => rfl) (fun n p => by kernel_rfl)
theorem E93 : ∀ x, funG fs X93 6 93 C93 x = C93.fn x := fun x => by kernel_rfl
theorem B93 : ConG Tryz.prog 93 C93 := ConG.make FS MIX TY (cons := K93) (L := L93) (ptrs := Q93) ⟨S29, trivial⟩ trivial ⟨⟨⟨N, fun p => f_laws_markSenderS.l0.ok N p⟩, trivial⟩, trivial⟩ rfl (by kernel_rfl) E93
theorem S93 : ConS Tryz.prog 93 C93 := B93.call (by kernel_rfl)
/-! laws.markReceiverS: function 94 -/
noncomputable def f_laws_markReceiverS.l0 : Nat → Int → Int → Int → (List Int) → Option (Int × Int × List Int)
  | 0, _, _, _, _ => none
  | n + 1, p719, p720, p721, p722 =>
    bif (decide (p721 < (p722.length : Int))) then
      bif ((decide ((0 : Int) ≤ p721)) && (decide (p721 < (p722.length : Int)))) then
      (some ((p722.set p721.toNat p719) : List Int)).bind fun z723 =>
      f_laws_markReceiverS.l0 n (IntKind.wrap .i64 (p719 + (1 : Int))) p720 (IntKind.wrap .i64 (p721 + (1 : Int))) z723
      else none
    else
      some (p719, p720, p722)
noncomputable def f_laws_markReceiverS (x0 : List Int) (x1 : Int) : Option (Int × List Int) :=
  (f_laws_markReceiverS.l0 N x1 0 0 x0).bind fun r724 =>
  some (r724.1, r724.2.2)
noncomputable def C94 : Con := ⟨[(.I, false, [(.sl R0)]), (.B, false, [(.int .i64)])], [(false, [(.int .i64)])], [(.sl R0), (.int .i64)], [(.int .i64), (.sl R0)], fun (p : List Int × Int) => f_laws_markReceiverS p.1 p.2⟩
noncomputable def f_laws_markReceiverS.l0.c : LoopCon := ⟨1000, 6, [0, 1, 4, 5], ⟨[(0, .ref 0 [] none), (1, .int .i64 0), (4, .int .i64 0), (5, .int .i64 0)], [(0, .row R0 [])], 1000⟩, [(.int .i64), (.int .i64), (.int .i64), (.sl R0)], [⟨.exit 0, [1, 4], ⟨[(1, .int .i64 0), (4, .int .i64 0)], [(0, .row R0 [])], 1000⟩, [(.int .i64), (.int .i64), (.sl R0)]⟩], fun (p : Int × Int × Int × List Int) => f_laws_markReceiverS.l0 N p.1 p.2.1 p.2.2.1 p.2.2.2⟩
noncomputable abbrev K94 : Cons := []
noncomputable abbrev L94 : List (Nat × Loops) := [(94, [(2, f_laws_markReceiverS.l0.c)])]
abbrev Q94 : List (Nat × List (Int × Nat) × Nat) := []
noncomputable abbrev X94 : Nat → Ctx := ctxOf tb K94 L94 Q94
theorem f_laws_markReceiverS.l0.ok : ∀ n p, (fun (p : Int × Int × Int × List Int) => f_laws_markReceiverS.l0 n p.1 p.2.1 p.2.2.1 p.2.2.2) p = iterD (roundOf fs X94 6 94 2 false f_laws_markReceiverS.l0.c) n p :=
  iter_of (l := fun n => fun (p : Int × Int × Int × List Int) => f_laws_markReceiverS.l0 n p.1 p.2.1 p.2.2.1 p.2.2.2) (fun _ => rfl) (fun n p => by kernel_rfl)
theorem E94 : ∀ x, funG fs X94 6 94 C94 x = C94.fn x := fun x => by kernel_rfl
theorem B94 : ConG Tryz.prog 94 C94 := ConG.make FS MIX TY (cons := K94) (L := L94) (ptrs := Q94) trivial trivial ⟨⟨⟨N, fun p => f_laws_markReceiverS.l0.ok N p⟩, trivial⟩, trivial⟩ rfl (by kernel_rfl) E94
theorem S94 : ConS Tryz.prog 94 C94 := B94.call (by kernel_rfl)
/-! laws.markNode: function 23 -/
noncomputable def f_laws_markNode (x0 : Int) (x1 : List (Int × List Int × Bool)) (x2 : List (List Int × Int × List Bool × Bool × Int × Bool × Int × (List (Int × Bool)))) (x3 : List (Int × (List (Int × Int × Bool × List Int)))) (x4 : List Int) (x5 : Int) : Option (Int × (List (Int × List Int × Bool)) × (List (List Int × Int × List Bool × Bool × Int × Bool × Int × (List (Int × Bool)))) × (List (Int × (List (Int × Int × Bool × List Int)))) × List Int) :=
  (f_laws_markFrameS x1 x5).bind fun y725 =>
  (some (y725.2 : List (Int × List Int × Bool))).bind fun z726 =>
  (f_laws_markHomeS x2 y725.1).bind fun y727 =>
  (some (y727.2 : List (List Int × Int × List Bool × Bool × Int × Bool × Int × (List (Int × Bool))))).bind fun z728 =>
  (f_laws_markSenderS x3 y727.1).bind fun y729 =>
  (some (y729.2 : List (Int × (List (Int × Int × Bool × List Int))))).bind fun z730 =>
  (f_laws_markReceiverS x4 y729.1).bind fun y731 =>
  (some (y731.2 : List Int)).bind fun z732 =>
  some (y731.1, z726, z728, z730, z732)
noncomputable def C23 : Con := ⟨[(.I, true, [(.int .i64), (.sl R1), (.sl R4), (.sl R6), (.sl R0)]), (.B, false, [(.int .i64)])], [(false, [(.int .i64)])], [(.int .i64), (.sl R1), (.sl R4), (.sl R6), (.sl R0), (.int .i64)], [(.int .i64), (.sl R1), (.sl R4), (.sl R6), (.sl R0)], fun (p : Int × (List (Int × List Int × Bool)) × (List (List Int × Int × List Bool × Bool × Int × Bool × Int × (List (Int × Bool)))) × (List (Int × (List (Int × Int × Bool × List Int)))) × List Int × Int) => f_laws_markNode p.1 p.2.1 p.2.2.1 p.2.2.2.1 p.2.2.2.2.1 p.2.2.2.2.2⟩
noncomputable abbrev K23 : Cons := [(91, C91), (92, C92), (93, C93), (94, C94)]
noncomputable abbrev L23 : List (Nat × Loops) := []
abbrev Q23 : List (Nat × List (Int × Nat) × Nat) := []
noncomputable abbrev X23 : Nat → Ctx := ctxOf tb K23 L23 Q23
theorem E23 : ∀ x, funG fs X23 6 23 C23 x = C23.fn x := fun x => by kernel_rfl
theorem B23 : ConG Tryz.prog 23 C23 := ConG.make FS MIX TY (cons := K23) (L := L23) (ptrs := Q23) ⟨S91, S92, S93, S94, trivial⟩ trivial trivial rfl (by kernel_rfl) E23
theorem S23 : ConS Tryz.prog 23 C23 := B23.call (by kernel_rfl)
/-! laws.heldIntS: function 41 -/
noncomputable def f_laws_heldIntS.l0 : Nat → (List Int) → Int → Int → Int → Option ((Int) ⊕ (Int × Int))
  | 0, _, _, _, _ => none
  | n + 1, p733, p734, p735, p736 =>
    bif (decide (p736 < (p733.length : Int))) then
      bif ((decide ((0 : Int) ≤ p736)) && (decide (p736 < (p733.length : Int)))) then
      bif (!(decide ((p733.getD p736.toNat 0) = p734))) then
        some (.inl (-1))
      else
        f_laws_heldIntS.l0 n p733 (IntKind.wrap .i64 (p734 + (1 : Int))) p735 (IntKind.wrap .i64 (p736 + (1 : Int)))
      else none
    else
      some (.inr (p734, p735))
noncomputable def f_laws_heldIntS (x0 : List Int) (x1 : Int) : Option (Int) :=
  (f_laws_heldIntS.l0 N x0 x1 0 0).bind fun r737 =>
  cs r737 (fun a738 =>
    some a738) (fun b739 =>
    some b739.1)
noncomputable def C41 : Con := ⟨[(.B, false, [(.sl R0)]), (.B, false, [(.int .i64)])], [(false, [(.int .i64)])], [(.sl R0), (.int .i64)], [(.int .i64)], fun (p : List Int × Int) => f_laws_heldIntS p.1 p.2⟩
noncomputable def f_laws_heldIntS.l0.c : LoopCon := ⟨1000, 6, [0, 1, 4, 5], ⟨[(0, .bor none R0 []), (1, .int .i64 0), (4, .int .i64 0), (5, .int .i64 0)], [], 1000⟩, [(.sl R0), (.int .i64), (.int .i64), (.int .i64)], [⟨.ret, [4], ⟨[(4, .int .i64 0)], [], 1000⟩, [(.int .i64)]⟩, ⟨.exit 0, [1, 4], ⟨[(1, .int .i64 0), (4, .int .i64 0)], [], 1000⟩, [(.int .i64), (.int .i64)]⟩], fun (p : List Int × Int × Int × Int) => f_laws_heldIntS.l0 N p.1 p.2.1 p.2.2.1 p.2.2.2⟩
noncomputable abbrev K41 : Cons := []
noncomputable abbrev L41 : List (Nat × Loops) := [(41, [(2, f_laws_heldIntS.l0.c)])]
abbrev Q41 : List (Nat × List (Int × Nat) × Nat) := []
noncomputable abbrev X41 : Nat → Ctx := ctxOf tb K41 L41 Q41
theorem f_laws_heldIntS.l0.ok : ∀ n p, (fun (p : List Int × Int × Int × Int) => f_laws_heldIntS.l0 n p.1 p.2.1 p.2.2.1 p.2.2.2) p = iterD (roundOf fs X41 6 41 2 false f_laws_heldIntS.l0.c) n p :=
  iter_of (l := fun n => fun (p : List Int × Int × Int × Int) => f_laws_heldIntS.l0 n p.1 p.2.1 p.2.2.1 p.2.2.2) (fun _ => rfl) (fun n p => by kernel_rfl)
theorem E41 : ∀ x, funRun fs X41 6 41 C41 x = C41.fn x := fun x => by kernel_rfl
theorem B41 : ConB Tryz.prog 41 C41 := ConB.make FS MIX TY (cons := K41) (L := L41) (ptrs := Q41) trivial trivial ⟨⟨⟨N, fun p => f_laws_heldIntS.l0.ok N p⟩, trivial⟩, trivial⟩ rfl rfl E41
theorem S41 : ConS Tryz.prog 41 C41 := B41.call rfl
/-! laws.heldFrameS: function 95 -/
noncomputable def f_laws_heldFrameS.l0 : Nat → (List (Int × List Int × Bool)) → Int → Int → Int → Option ((Int) ⊕ (Int × Int))
  | 0, _, _, _, _ => none
  | n + 1, p740, p741, p742, p743 =>
    bif (decide (p743 < (p740.length : Int))) then
      bif ((decide ((0 : Int) ≤ p743)) && (decide (p743 < (p740.length : Int)))) then
      bif (!(decide (((p740.getD p743.toNat (0, [], false)).1) = p741))) then
        some (.inl (-1))
      else
        bif ((decide ((0 : Int) ≤ p743)) && (decide (p743 < (p740.length : Int)))) then
        (f_laws_heldIntS ((p740.getD p743.toNat (0, [], false)).2.1) (IntKind.wrap .i64 (p741 + (1 : Int)))).bind fun y744 =>
        bif (decide (y744 < (0 : Int))) then
          some (.inl (-1))
        else
          bif ((decide ((0 : Int) ≤ p743)) && (decide (p743 < (p740.length : Int)))) then
          bif (!(((p740.getD p743.toNat (0, [], false)).2.2) == (decide ((Int.tmod y744 (3 : Int)) = (0 : Int))))) then
            some (.inl (-1))
          else
            f_laws_heldFrameS.l0 n p740 (IntKind.wrap .i64 (y744 + (1 : Int))) p742 (IntKind.wrap .i64 (p743 + (1 : Int)))
          else none
        else none
      else none
    else
      some (.inr (p741, p742))
noncomputable def f_laws_heldFrameS (x0 : List (Int × List Int × Bool)) (x1 : Int) : Option (Int) :=
  (f_laws_heldFrameS.l0 N x0 x1 0 0).bind fun r745 =>
  cs r745 (fun a746 =>
    some a746) (fun b747 =>
    some b747.1)
noncomputable def C95 : Con := ⟨[(.B, false, [(.sl R1)]), (.B, false, [(.int .i64)])], [(false, [(.int .i64)])], [(.sl R1), (.int .i64)], [(.int .i64)], fun (p : (List (Int × List Int × Bool)) × Int) => f_laws_heldFrameS p.1 p.2⟩
noncomputable def f_laws_heldFrameS.l0.c : LoopCon := ⟨1000, 6, [0, 1, 4, 5], ⟨[(0, .bor none R1 []), (1, .int .i64 0), (4, .int .i64 0), (5, .int .i64 0)], [], 1000⟩, [(.sl R1), (.int .i64), (.int .i64), (.int .i64)], [⟨.ret, [4], ⟨[(4, .int .i64 0)], [], 1000⟩, [(.int .i64)]⟩, ⟨.exit 0, [1, 4], ⟨[(1, .int .i64 0), (4, .int .i64 0)], [], 1000⟩, [(.int .i64), (.int .i64)]⟩], fun (p : (List (Int × List Int × Bool)) × Int × Int × Int) => f_laws_heldFrameS.l0 N p.1 p.2.1 p.2.2.1 p.2.2.2⟩
noncomputable abbrev K95 : Cons := [(41, C41)]
noncomputable abbrev L95 : List (Nat × Loops) := [(95, [(2, f_laws_heldFrameS.l0.c)])]
abbrev Q95 : List (Nat × List (Int × Nat) × Nat) := []
noncomputable abbrev X95 : Nat → Ctx := ctxOf tb K95 L95 Q95
theorem f_laws_heldFrameS.l0.ok : ∀ n p, (fun (p : (List (Int × List Int × Bool)) × Int × Int × Int) => f_laws_heldFrameS.l0 n p.1 p.2.1 p.2.2.1 p.2.2.2) p = iterD (roundOf fs X95 6 95 2 false f_laws_heldFrameS.l0.c) n p :=
  iter_of (l := fun n => fun (p : (List (Int × List Int × Bool)) × Int × Int × Int) => f_laws_heldFrameS.l0 n p.1 p.2.1 p.2.2.1 p.2.2.2) (fun _ => rfl) (fun n p => by kernel_rfl)
theorem E95 : ∀ x, funRun fs X95 6 95 C95 x = C95.fn x := fun x => by kernel_rfl
theorem B95 : ConB Tryz.prog 95 C95 := ConB.make FS MIX TY (cons := K95) (L := L95) (ptrs := Q95) ⟨S41, trivial⟩ trivial ⟨⟨⟨N, fun p => f_laws_heldFrameS.l0.ok N p⟩, trivial⟩, trivial⟩ rfl rfl E95
theorem S95 : ConS Tryz.prog 95 C95 := B95.call rfl
/-! laws.heldBoolS: function 170 -/
noncomputable def f_laws_heldBoolS.l0 : Nat → (List Bool) → Int → Int → Int → Option ((Int) ⊕ (Int × Int))
  | 0, _, _, _, _ => none
  | n + 1, p748, p749, p750, p751 =>
    bif (decide (p751 < (p748.length : Int))) then
      bif ((decide ((0 : Int) ≤ p751)) && (decide (p751 < (p748.length : Int)))) then
      bif (!((p748.getD p751.toNat false) == (decide ((Int.tmod p749 (3 : Int)) = (0 : Int))))) then
        some (.inl (-1))
      else
        f_laws_heldBoolS.l0 n p748 (IntKind.wrap .i64 (p749 + (1 : Int))) p750 (IntKind.wrap .i64 (p751 + (1 : Int)))
      else none
    else
      some (.inr (p749, p750))
noncomputable def f_laws_heldBoolS (x0 : List Bool) (x1 : Int) : Option (Int) :=
  (f_laws_heldBoolS.l0 N x0 x1 0 0).bind fun r752 =>
  cs r752 (fun a753 =>
    some a753) (fun b754 =>
    some b754.1)
noncomputable def C170 : Con := ⟨[(.B, false, [(.sl R2)]), (.B, false, [(.int .i64)])], [(false, [(.int .i64)])], [(.sl R2), (.int .i64)], [(.int .i64)], fun (p : List Bool × Int) => f_laws_heldBoolS p.1 p.2⟩
noncomputable def f_laws_heldBoolS.l0.c : LoopCon := ⟨1000, 6, [0, 1, 4, 5], ⟨[(0, .bor none R2 []), (1, .int .i64 0), (4, .int .i64 0), (5, .int .i64 0)], [], 1000⟩, [(.sl R2), (.int .i64), (.int .i64), (.int .i64)], [⟨.ret, [4], ⟨[(4, .int .i64 0)], [], 1000⟩, [(.int .i64)]⟩, ⟨.exit 0, [1, 4], ⟨[(1, .int .i64 0), (4, .int .i64 0)], [], 1000⟩, [(.int .i64), (.int .i64)]⟩], fun (p : List Bool × Int × Int × Int) => f_laws_heldBoolS.l0 N p.1 p.2.1 p.2.2.1 p.2.2.2⟩
noncomputable abbrev K170 : Cons := []
noncomputable abbrev L170 : List (Nat × Loops) := [(170, [(2, f_laws_heldBoolS.l0.c)])]
abbrev Q170 : List (Nat × List (Int × Nat) × Nat) := []
noncomputable abbrev X170 : Nat → Ctx := ctxOf tb K170 L170 Q170
theorem f_laws_heldBoolS.l0.ok : ∀ n p, (fun (p : List Bool × Int × Int × Int) => f_laws_heldBoolS.l0 n p.1 p.2.1 p.2.2.1 p.2.2.2) p = iterD (roundOf fs X170 6 170 2 false f_laws_heldBoolS.l0.c) n p :=
  iter_of (l := fun n => fun (p : List Bool × Int × Int × Int) => f_laws_heldBoolS.l0 n p.1 p.2.1 p.2.2.1 p.2.2.2) (fun _ => rfl) (fun n p => by kernel_rfl)
theorem E170 : ∀ x, funRun fs X170 6 170 C170 x = C170.fn x := fun x => by kernel_rfl
theorem B170 : ConB Tryz.prog 170 C170 := ConB.make FS MIX TY (cons := K170) (L := L170) (ptrs := Q170) trivial trivial ⟨⟨⟨N, fun p => f_laws_heldBoolS.l0.ok N p⟩, trivial⟩, trivial⟩ rfl rfl E170
theorem S170 : ConS Tryz.prog 170 C170 := B170.call rfl
/-! laws.heldWaitS: function 171 -/
noncomputable def f_laws_heldWaitS.l0 : Nat → (List (Int × Bool)) → Int → Int → Int → Option ((Int) ⊕ (Int × Int))
  | 0, _, _, _, _ => none
  | n + 1, p755, p756, p757, p758 =>
    bif (decide (p758 < (p755.length : Int))) then
      bif ((decide ((0 : Int) ≤ p758)) && (decide (p758 < (p755.length : Int)))) then
      bif (!(decide (((p755.getD p758.toNat (0, false)).1) = p756))) then
        some (.inl (-1))
      else
        bif ((decide ((0 : Int) ≤ p758)) && (decide (p758 < (p755.length : Int)))) then
        bif (!(((p755.getD p758.toNat (0, false)).2) == (decide ((Int.tmod (IntKind.wrap .i64 (p756 + (1 : Int))) (3 : Int)) = (0 : Int))))) then
          some (.inl (-1))
        else
          f_laws_heldWaitS.l0 n p755 (IntKind.wrap .i64 ((IntKind.wrap .i64 (p756 + (1 : Int))) + (1 : Int))) p757 (IntKind.wrap .i64 (p758 + (1 : Int)))
        else none
      else none
    else
      some (.inr (p756, p757))
noncomputable def f_laws_heldWaitS (x0 : List (Int × Bool)) (x1 : Int) : Option (Int) :=
  (f_laws_heldWaitS.l0 N x0 x1 0 0).bind fun r759 =>
  cs r759 (fun a760 =>
    some a760) (fun b761 =>
    some b761.1)
noncomputable def C171 : Con := ⟨[(.B, false, [(.sl R3)]), (.B, false, [(.int .i64)])], [(false, [(.int .i64)])], [(.sl R3), (.int .i64)], [(.int .i64)], fun (p : (List (Int × Bool)) × Int) => f_laws_heldWaitS p.1 p.2⟩
noncomputable def f_laws_heldWaitS.l0.c : LoopCon := ⟨1000, 6, [0, 1, 4, 5], ⟨[(0, .bor none R3 []), (1, .int .i64 0), (4, .int .i64 0), (5, .int .i64 0)], [], 1000⟩, [(.sl R3), (.int .i64), (.int .i64), (.int .i64)], [⟨.ret, [4], ⟨[(4, .int .i64 0)], [], 1000⟩, [(.int .i64)]⟩, ⟨.exit 0, [1, 4], ⟨[(1, .int .i64 0), (4, .int .i64 0)], [], 1000⟩, [(.int .i64), (.int .i64)]⟩], fun (p : (List (Int × Bool)) × Int × Int × Int) => f_laws_heldWaitS.l0 N p.1 p.2.1 p.2.2.1 p.2.2.2⟩
noncomputable abbrev K171 : Cons := []
noncomputable abbrev L171 : List (Nat × Loops) := [(171, [(2, f_laws_heldWaitS.l0.c)])]
abbrev Q171 : List (Nat × List (Int × Nat) × Nat) := []
noncomputable abbrev X171 : Nat → Ctx := ctxOf tb K171 L171 Q171
theorem f_laws_heldWaitS.l0.ok : ∀ n p, (fun (p : (List (Int × Bool)) × Int × Int × Int) => f_laws_heldWaitS.l0 n p.1 p.2.1 p.2.2.1 p.2.2.2) p = iterD (roundOf fs X171 6 171 2 false f_laws_heldWaitS.l0.c) n p :=
  iter_of (l := fun n => fun (p : (List (Int × Bool)) × Int × Int × Int) => f_laws_heldWaitS.l0 n p.1 p.2.1 p.2.2.1 p.2.2.2) (fun _ => rfl) (fun n p => by kernel_rfl)
theorem E171 : ∀ x, funRun fs X171 6 171 C171 x = C171.fn x := fun x => by kernel_rfl
theorem B171 : ConB Tryz.prog 171 C171 := ConB.make FS MIX TY (cons := K171) (L := L171) (ptrs := Q171) trivial trivial ⟨⟨⟨N, fun p => f_laws_heldWaitS.l0.ok N p⟩, trivial⟩, trivial⟩ rfl rfl E171
theorem S171 : ConS Tryz.prog 171 C171 := B171.call rfl
/-! laws.heldHomeS: function 96 -/
noncomputable def f_laws_heldHomeS.l0 : Nat → (List (List Int × Int × List Bool × Bool × Int × Bool × Int × (List (Int × Bool)))) → Int → Int → Int → Option ((Int) ⊕ (Int × Int))
  | 0, _, _, _, _ => none
  | n + 1, p762, p763, p764, p765 =>
    bif (decide (p765 < (p762.length : Int))) then
      bif ((decide ((0 : Int) ≤ p765)) && (decide (p765 < (p762.length : Int)))) then
      (f_laws_heldIntS ((p762.getD p765.toNat ([], 0, [], false, 0, false, 0, [])).1) p763).bind fun y766 =>
      bif (decide (y766 < (0 : Int))) then
        some (.inl (-1))
      else
        bif ((decide ((0 : Int) ≤ p765)) && (decide (p765 < (p762.length : Int)))) then
        bif (!(decide (((p762.getD p765.toNat ([], 0, [], false, 0, false, 0, [])).2.1) = y766))) then
          some (.inl (-1))
        else
          bif ((decide ((0 : Int) ≤ p765)) && (decide (p765 < (p762.length : Int)))) then
          (f_laws_heldBoolS ((p762.getD p765.toNat ([], 0, [], false, 0, false, 0, [])).2.2.1) (IntKind.wrap .i64 (y766 + (1 : Int)))).bind fun y767 =>
          bif (decide (y767 < (0 : Int))) then
            some (.inl (-1))
          else
            bif ((decide ((0 : Int) ≤ p765)) && (decide (p765 < (p762.length : Int)))) then
            bif (!(((p762.getD p765.toNat ([], 0, [], false, 0, false, 0, [])).2.2.2.1) == (decide ((Int.tmod y767 (3 : Int)) = (0 : Int))))) then
              some (.inl (-1))
            else
              bif ((decide ((0 : Int) ≤ p765)) && (decide (p765 < (p762.length : Int)))) then
              bif (!(decide (((p762.getD p765.toNat ([], 0, [], false, 0, false, 0, [])).2.2.2.2.1) = (IntKind.wrap .i64 (y767 + (1 : Int)))))) then
                some (.inl (-1))
              else
                bif ((decide ((0 : Int) ≤ p765)) && (decide (p765 < (p762.length : Int)))) then
                bif (!(((p762.getD p765.toNat ([], 0, [], false, 0, false, 0, [])).2.2.2.2.2.1) == (decide ((Int.tmod (IntKind.wrap .i64 ((IntKind.wrap .i64 (y767 + (1 : Int))) + (1 : Int))) (3 : Int)) = (0 : Int))))) then
                  some (.inl (-1))
                else
                  bif ((decide ((0 : Int) ≤ p765)) && (decide (p765 < (p762.length : Int)))) then
                  bif (!(decide (((p762.getD p765.toNat ([], 0, [], false, 0, false, 0, [])).2.2.2.2.2.2.1) = (IntKind.wrap .i64 ((IntKind.wrap .i64 ((IntKind.wrap .i64 (y767 + (1 : Int))) + (1 : Int))) + (1 : Int)))))) then
                    some (.inl (-1))
                  else
                    bif ((decide ((0 : Int) ≤ p765)) && (decide (p765 < (p762.length : Int)))) then
                    (f_laws_heldWaitS ((p762.getD p765.toNat ([], 0, [], false, 0, false, 0, [])).2.2.2.2.2.2.2) (IntKind.wrap .i64 ((IntKind.wrap .i64 ((IntKind.wrap .i64 ((IntKind.wrap .i64 (y767 + (1 : Int))) + (1 : Int))) + (1 : Int))) + (1 : Int)))).bind fun y768 =>
                    bif (decide (y768 < (0 : Int))) then
                      some (.inl (-1))
                    else
                      f_laws_heldHomeS.l0 n p762 y768 p764 (IntKind.wrap .i64 (p765 + (1 : Int)))
                    else none
                  else none
                else none
              else none
            else none
          else none
        else none
      else none
    else
      some (.inr (p763, p764))
noncomputable def f_laws_heldHomeS (x0 : List (List Int × Int × List Bool × Bool × Int × Bool × Int × (List (Int × Bool)))) (x1 : Int) : Option (Int) :=
  (f_laws_heldHomeS.l0 N x0 x1 0 0).bind fun r769 =>
  cs r769 (fun a770 =>
    some a770) (fun b771 =>
    some b771.1)
noncomputable def C96 : Con := ⟨[(.B, false, [(.sl R4)]), (.B, false, [(.int .i64)])], [(false, [(.int .i64)])], [(.sl R4), (.int .i64)], [(.int .i64)], fun (p : (List (List Int × Int × List Bool × Bool × Int × Bool × Int × (List (Int × Bool)))) × Int) => f_laws_heldHomeS p.1 p.2⟩
noncomputable def f_laws_heldHomeS.l0.c : LoopCon := ⟨1000, 6, [0, 1, 4, 5], ⟨[(0, .bor none R4 []), (1, .int .i64 0), (4, .int .i64 0), (5, .int .i64 0)], [], 1000⟩, [(.sl R4), (.int .i64), (.int .i64), (.int .i64)], [⟨.ret, [4], ⟨[(4, .int .i64 0)], [], 1000⟩, [(.int .i64)]⟩, ⟨.exit 0, [1, 4], ⟨[(1, .int .i64 0), (4, .int .i64 0)], [], 1000⟩, [(.int .i64), (.int .i64)]⟩], fun (p : (List (List Int × Int × List Bool × Bool × Int × Bool × Int × (List (Int × Bool)))) × Int × Int × Int) => f_laws_heldHomeS.l0 N p.1 p.2.1 p.2.2.1 p.2.2.2⟩
noncomputable abbrev K96 : Cons := [(41, C41), (170, C170), (171, C171)]
noncomputable abbrev L96 : List (Nat × Loops) := [(96, [(2, f_laws_heldHomeS.l0.c)])]
abbrev Q96 : List (Nat × List (Int × Nat) × Nat) := []
noncomputable abbrev X96 : Nat → Ctx := ctxOf tb K96 L96 Q96
theorem f_laws_heldHomeS.l0.ok : ∀ n p, (fun (p : (List (List Int × Int × List Bool × Bool × Int × Bool × Int × (List (Int × Bool)))) × Int × Int × Int) => f_laws_heldHomeS.l0 n p.1 p.2.1 p.2.2.1 p.2.2.2) p = iterD (roundOf fs X96 6 96 2 false f_laws_heldHomeS.l0.c) n p :=
  iter_of (l := fun n => fun (p : (List (List Int × Int × List Bool × Bool × Int × Bool × Int × (List (Int × Bool)))) × Int × Int × Int) => f_laws_heldHomeS.l0 n p.1 p.2.1 p.2.2.1 p.2.2.2) (fun _ => rfl) (fun n p => by kernel_rfl)
theorem E96 : ∀ x, funRun fs X96 6 96 C96 x = C96.fn x := fun x => by kernel_rfl
theorem B96 : ConB Tryz.prog 96 C96 := ConB.make FS MIX TY (cons := K96) (L := L96) (ptrs := Q96) ⟨S41, S170, S171, trivial⟩ trivial ⟨⟨⟨N, fun p => f_laws_heldHomeS.l0.ok N p⟩, trivial⟩, trivial⟩ rfl rfl E96
theorem S96 : ConS Tryz.prog 96 C96 := B96.call rfl
/-! laws.heldMsgS: function 30 -/
noncomputable def f_laws_heldMsgS.l0 : Nat → (List (Int × Int × Bool × List Int)) → Int → Int → Int → Option ((Int) ⊕ (Int × Int))
  | 0, _, _, _, _ => none
  | n + 1, p772, p773, p774, p775 =>
    bif (decide (p775 < (p772.length : Int))) then
      bif ((decide ((0 : Int) ≤ p775)) && (decide (p775 < (p772.length : Int)))) then
      bif (!(decide (((p772.getD p775.toNat (0, 0, false, [])).1) = p773))) then
        some (.inl (-1))
      else
        bif ((decide ((0 : Int) ≤ p775)) && (decide (p775 < (p772.length : Int)))) then
        bif (!(decide (((p772.getD p775.toNat (0, 0, false, [])).2.1) = (IntKind.wrap .i64 (p773 + (1 : Int)))))) then
          some (.inl (-1))
        else
          bif ((decide ((0 : Int) ≤ p775)) && (decide (p775 < (p772.length : Int)))) then
          bif (!(((p772.getD p775.toNat (0, 0, false, [])).2.2.1) == (decide ((Int.tmod (IntKind.wrap .i64 ((IntKind.wrap .i64 (p773 + (1 : Int))) + (1 : Int))) (3 : Int)) = (0 : Int))))) then
            some (.inl (-1))
          else
            bif ((decide ((0 : Int) ≤ p775)) && (decide (p775 < (p772.length : Int)))) then
            (f_laws_heldIntS ((p772.getD p775.toNat (0, 0, false, [])).2.2.2) (IntKind.wrap .i64 ((IntKind.wrap .i64 ((IntKind.wrap .i64 (p773 + (1 : Int))) + (1 : Int))) + (1 : Int)))).bind fun y776 =>
            bif (decide (y776 < (0 : Int))) then
              some (.inl (-1))
            else
              f_laws_heldMsgS.l0 n p772 y776 p774 (IntKind.wrap .i64 (p775 + (1 : Int)))
            else none
          else none
        else none
      else none
    else
      some (.inr (p773, p774))
noncomputable def f_laws_heldMsgS (x0 : List (Int × Int × Bool × List Int)) (x1 : Int) : Option (Int) :=
  (f_laws_heldMsgS.l0 N x0 x1 0 0).bind fun r777 =>
  cs r777 (fun a778 =>
    some a778) (fun b779 =>
    some b779.1)
noncomputable def C30 : Con := ⟨[(.B, false, [(.sl R5)]), (.B, false, [(.int .i64)])], [(false, [(.int .i64)])], [(.sl R5), (.int .i64)], [(.int .i64)], fun (p : (List (Int × Int × Bool × List Int)) × Int) => f_laws_heldMsgS p.1 p.2⟩
noncomputable def f_laws_heldMsgS.l0.c : LoopCon := ⟨1000, 6, [0, 1, 4, 5], ⟨[(0, .bor none R5 []), (1, .int .i64 0), (4, .int .i64 0), (5, .int .i64 0)], [], 1000⟩, [(.sl R5), (.int .i64), (.int .i64), (.int .i64)], [⟨.ret, [4], ⟨[(4, .int .i64 0)], [], 1000⟩, [(.int .i64)]⟩, ⟨.exit 0, [1, 4], ⟨[(1, .int .i64 0), (4, .int .i64 0)], [], 1000⟩, [(.int .i64), (.int .i64)]⟩], fun (p : (List (Int × Int × Bool × List Int)) × Int × Int × Int) => f_laws_heldMsgS.l0 N p.1 p.2.1 p.2.2.1 p.2.2.2⟩
noncomputable abbrev K30 : Cons := [(41, C41)]
noncomputable abbrev L30 : List (Nat × Loops) := [(30, [(2, f_laws_heldMsgS.l0.c)])]
abbrev Q30 : List (Nat × List (Int × Nat) × Nat) := []
noncomputable abbrev X30 : Nat → Ctx := ctxOf tb K30 L30 Q30
theorem f_laws_heldMsgS.l0.ok : ∀ n p, (fun (p : (List (Int × Int × Bool × List Int)) × Int × Int × Int) => f_laws_heldMsgS.l0 n p.1 p.2.1 p.2.2.1 p.2.2.2) p = iterD (roundOf fs X30 6 30 2 false f_laws_heldMsgS.l0.c) n p :=
  iter_of (l := fun n => fun (p : (List (Int × Int × Bool × List Int)) × Int × Int × Int) => f_laws_heldMsgS.l0 n p.1 p.2.1 p.2.2.1 p.2.2.2) (fun _ => rfl) (fun n p => by kernel_rfl)
theorem E30 : ∀ x, funRun fs X30 6 30 C30 x = C30.fn x := fun x => by kernel_rfl
theorem B30 : ConB Tryz.prog 30 C30 := ConB.make FS MIX TY (cons := K30) (L := L30) (ptrs := Q30) ⟨S41, trivial⟩ trivial ⟨⟨⟨N, fun p => f_laws_heldMsgS.l0.ok N p⟩, trivial⟩, trivial⟩ rfl rfl E30
theorem S30 : ConS Tryz.prog 30 C30 := B30.call rfl
/-! laws.heldSenderS: function 97 -/
noncomputable def f_laws_heldSenderS.l0 : Nat → (List (Int × (List (Int × Int × Bool × List Int)))) → Int → Int → Int → Option ((Int) ⊕ (Int × Int))
  | 0, _, _, _, _ => none
  | n + 1, p780, p781, p782, p783 =>
    bif (decide (p783 < (p780.length : Int))) then
      bif ((decide ((0 : Int) ≤ p783)) && (decide (p783 < (p780.length : Int)))) then
      bif (!(decide (((p780.getD p783.toNat (0, [])).1) = p781))) then
        some (.inl (-1))
      else
        bif ((decide ((0 : Int) ≤ p783)) && (decide (p783 < (p780.length : Int)))) then
        (f_laws_heldMsgS ((p780.getD p783.toNat (0, [])).2) (IntKind.wrap .i64 (p781 + (1 : Int)))).bind fun y784 =>
        bif (decide (y784 < (0 : Int))) then
          some (.inl (-1))
        else
          f_laws_heldSenderS.l0 n p780 y784 p782 (IntKind.wrap .i64 (p783 + (1 : Int)))
        else none
      else none
    else
      some (.inr (p781, p782))
noncomputable def f_laws_heldSenderS (x0 : List (Int × (List (Int × Int × Bool × List Int)))) (x1 : Int) : Option (Int) :=
  (f_laws_heldSenderS.l0 N x0 x1 0 0).bind fun r785 =>
  cs r785 (fun a786 =>
    some a786) (fun b787 =>
    some b787.1)
noncomputable def C97 : Con := ⟨[(.B, false, [(.sl R6)]), (.B, false, [(.int .i64)])], [(false, [(.int .i64)])], [(.sl R6), (.int .i64)], [(.int .i64)], fun (p : (List (Int × (List (Int × Int × Bool × List Int)))) × Int) => f_laws_heldSenderS p.1 p.2⟩
noncomputable def f_laws_heldSenderS.l0.c : LoopCon := ⟨1000, 6, [0, 1, 4, 5], ⟨[(0, .bor none R6 []), (1, .int .i64 0), (4, .int .i64 0), (5, .int .i64 0)], [], 1000⟩, [(.sl R6), (.int .i64), (.int .i64), (.int .i64)], [⟨.ret, [4], ⟨[(4, .int .i64 0)], [], 1000⟩, [(.int .i64)]⟩, ⟨.exit 0, [1, 4], ⟨[(1, .int .i64 0), (4, .int .i64 0)], [], 1000⟩, [(.int .i64), (.int .i64)]⟩], fun (p : (List (Int × (List (Int × Int × Bool × List Int)))) × Int × Int × Int) => f_laws_heldSenderS.l0 N p.1 p.2.1 p.2.2.1 p.2.2.2⟩
noncomputable abbrev K97 : Cons := [(30, C30)]
noncomputable abbrev L97 : List (Nat × Loops) := [(97, [(2, f_laws_heldSenderS.l0.c)])]
abbrev Q97 : List (Nat × List (Int × Nat) × Nat) := []
noncomputable abbrev X97 : Nat → Ctx := ctxOf tb K97 L97 Q97
theorem f_laws_heldSenderS.l0.ok : ∀ n p, (fun (p : (List (Int × (List (Int × Int × Bool × List Int)))) × Int × Int × Int) => f_laws_heldSenderS.l0 n p.1 p.2.1 p.2.2.1 p.2.2.2) p = iterD (roundOf fs X97 6 97 2 false f_laws_heldSenderS.l0.c) n p :=
  iter_of (l := fun n => fun (p : (List (Int × (List (Int × Int × Bool × List Int)))) × Int × Int × Int) => f_laws_heldSenderS.l0 n p.1 p.2.1 p.2.2.1 p.2.2.2) (fun _ => rfl) (fun n p => by kernel_rfl)
theorem E97 : ∀ x, funRun fs X97 6 97 C97 x = C97.fn x := fun x => by kernel_rfl
theorem B97 : ConB Tryz.prog 97 C97 := ConB.make FS MIX TY (cons := K97) (L := L97) (ptrs := Q97) ⟨S30, trivial⟩ trivial ⟨⟨⟨N, fun p => f_laws_heldSenderS.l0.ok N p⟩, trivial⟩, trivial⟩ rfl rfl E97
theorem S97 : ConS Tryz.prog 97 C97 := B97.call rfl
/-! laws.heldReceiverS: function 98 -/
noncomputable def f_laws_heldReceiverS.l0 : Nat → (List Int) → Int → Int → Int → Option ((Int) ⊕ (Int × Int))
  | 0, _, _, _, _ => none
  | n + 1, p788, p789, p790, p791 =>
    bif (decide (p791 < (p788.length : Int))) then
      bif ((decide ((0 : Int) ≤ p791)) && (decide (p791 < (p788.length : Int)))) then
      bif (!(decide ((p788.getD p791.toNat 0) = p789))) then
        some (.inl (-1))
      else
        f_laws_heldReceiverS.l0 n p788 (IntKind.wrap .i64 (p789 + (1 : Int))) p790 (IntKind.wrap .i64 (p791 + (1 : Int)))
      else none
    else
      some (.inr (p789, p790))
noncomputable def f_laws_heldReceiverS (x0 : List Int) (x1 : Int) : Option (Int) :=
  (f_laws_heldReceiverS.l0 N x0 x1 0 0).bind fun r792 =>
  cs r792 (fun a793 =>
    some a793) (fun b794 =>
    some b794.1)
noncomputable def C98 : Con := ⟨[(.B, false, [(.sl R0)]), (.B, false, [(.int .i64)])], [(false, [(.int .i64)])], [(.sl R0), (.int .i64)], [(.int .i64)], fun (p : List Int × Int) => f_laws_heldReceiverS p.1 p.2⟩
noncomputable def f_laws_heldReceiverS.l0.c : LoopCon := ⟨1000, 6, [0, 1, 4, 5], ⟨[(0, .bor none R0 []), (1, .int .i64 0), (4, .int .i64 0), (5, .int .i64 0)], [], 1000⟩, [(.sl R0), (.int .i64), (.int .i64), (.int .i64)], [⟨.ret, [4], ⟨[(4, .int .i64 0)], [], 1000⟩, [(.int .i64)]⟩, ⟨.exit 0, [1, 4], ⟨[(1, .int .i64 0), (4, .int .i64 0)], [], 1000⟩, [(.int .i64), (.int .i64)]⟩], fun (p : List Int × Int × Int × Int) => f_laws_heldReceiverS.l0 N p.1 p.2.1 p.2.2.1 p.2.2.2⟩
noncomputable abbrev K98 : Cons := []
noncomputable abbrev L98 : List (Nat × Loops) := [(98, [(2, f_laws_heldReceiverS.l0.c)])]
abbrev Q98 : List (Nat × List (Int × Nat) × Nat) := []
noncomputable abbrev X98 : Nat → Ctx := ctxOf tb K98 L98 Q98
theorem f_laws_heldReceiverS.l0.ok : ∀ n p, (fun (p : List Int × Int × Int × Int) => f_laws_heldReceiverS.l0 n p.1 p.2.1 p.2.2.1 p.2.2.2) p = iterD (roundOf fs X98 6 98 2 false f_laws_heldReceiverS.l0.c) n p :=
  iter_of (l := fun n => fun (p : List Int × Int × Int × Int) => f_laws_heldReceiverS.l0 n p.1 p.2.1 p.2.2.1 p.2.2.2) (fun _ => rfl) (fun n p => by kernel_rfl)
theorem E98 : ∀ x, funRun fs X98 6 98 C98 x = C98.fn x := fun x => by kernel_rfl
theorem B98 : ConB Tryz.prog 98 C98 := ConB.make FS MIX TY (cons := K98) (L := L98) (ptrs := Q98) trivial trivial ⟨⟨⟨N, fun p => f_laws_heldReceiverS.l0.ok N p⟩, trivial⟩, trivial⟩ rfl rfl E98
theorem S98 : ConS Tryz.prog 98 C98 := B98.call rfl
/-! laws.heldNode: function 24 -/
noncomputable def f_laws_heldNode (x0 : Int) (x1 : List (Int × List Int × Bool)) (x2 : List (List Int × Int × List Bool × Bool × Int × Bool × Int × (List (Int × Bool)))) (x3 : List (Int × (List (Int × Int × Bool × List Int)))) (x4 : List Int) (x5 : Int) : Option (Int) :=
  (f_laws_heldFrameS x1 x5).bind fun y795 =>
  bif (decide (y795 < (0 : Int))) then
    some (-1)
  else
    (f_laws_heldHomeS x2 y795).bind fun y796 =>
    bif (decide (y796 < (0 : Int))) then
      some (-1)
    else
      (f_laws_heldSenderS x3 y796).bind fun y797 =>
      bif (decide (y797 < (0 : Int))) then
        some (-1)
      else
        (f_laws_heldReceiverS x4 y797).bind fun y798 =>
        bif (decide (y798 < (0 : Int))) then
          some (-1)
        else
          some y798
noncomputable def C24 : Con := ⟨[(.B, true, [(.int .i64), (.sl R1), (.sl R4), (.sl R6), (.sl R0)]), (.B, false, [(.int .i64)])], [(false, [(.int .i64)])], [(.int .i64), (.sl R1), (.sl R4), (.sl R6), (.sl R0), (.int .i64)], [(.int .i64)], fun (p : Int × (List (Int × List Int × Bool)) × (List (List Int × Int × List Bool × Bool × Int × Bool × Int × (List (Int × Bool)))) × (List (Int × (List (Int × Int × Bool × List Int)))) × List Int × Int) => f_laws_heldNode p.1 p.2.1 p.2.2.1 p.2.2.2.1 p.2.2.2.2.1 p.2.2.2.2.2⟩
noncomputable abbrev K24 : Cons := [(95, C95), (96, C96), (97, C97), (98, C98)]
noncomputable abbrev L24 : List (Nat × Loops) := []
abbrev Q24 : List (Nat × List (Int × Nat) × Nat) := []
noncomputable abbrev X24 : Nat → Ctx := ctxOf tb K24 L24 Q24
theorem E24 : ∀ x, funRun fs X24 6 24 C24 x = C24.fn x := fun x => by kernel_rfl
theorem B24 : ConB Tryz.prog 24 C24 := ConB.make FS MIX TY (cons := K24) (L := L24) (ptrs := Q24) ⟨S95, S96, S97, S98, trivial⟩ trivial trivial rfl rfl E24
theorem S24 : ConS Tryz.prog 24 C24 := B24.call rfl
/-! laws.FnExactWant: function 5 -/
noncomputable def f_laws_FnExactWant (x0 : Int) (x1 : List (Int × List Int × Bool)) (x2 : List (List Int × Int × List Bool × Bool × Int × Bool × Int × (List (Int × Bool)))) (x3 : List (Int × (List (Int × Int × Bool × List Int)))) (x4 : List Int) (x5 : Int) (x6 : Int) (x7 : Bool) : Option (Bool) :=
  (f_laws_szNode x0 x1 x2 x3 x4 1048576).bind fun y799 =>
  bif (decide (y799 < (0 : Int))) then
    some true
  else
    (f_laws_toNode x0 x1 x2 x3 x4).bind fun y800 =>
    (f_spec_Want y800.1 y800.2.1 y800.2.2.1 y800.2.2.2.1 y800.2.2.2.2 x5 x6 x7).bind fun y801 =>
    (f_laws_toNode x0 x1 x2 x3 x4).bind fun y802 =>
    (f_impl_Want y802.1 y802.2.1 y802.2.2.1 y802.2.2.2.1 y802.2.2.2.2 x5 x6 x7).bind fun y803 =>
    (f_laws_eqNode y803.1 y803.2.1 y803.2.2.1 y803.2.2.2.1 y803.2.2.2.2.1 y801.1 y801.2.1 y801.2.2.1 y801.2.2.2.1 y801.2.2.2.2.1).bind fun y804 =>
    bif (!y804) then
      some false
    else
      bif (!(y803.2.2.2.2.2 == y801.2.2.2.2.2)) then
        some false
      else
        (f_laws_toNode x0 x1 x2 x3 x4).bind fun y805 =>
        (f_laws_eqNode y802.1 y802.2.1 y802.2.2.1 y802.2.2.2.1 y802.2.2.2.2 y805.1 y805.2.1 y805.2.2.1 y805.2.2.2.1 y805.2.2.2.2).bind fun y806 =>
        bif (!y806) then
          some false
        else
          (f_laws_markNode y802.1 y802.2.1 y802.2.2.1 y802.2.2.2.1 y802.2.2.2.2 1).bind fun y807 =>
          (some (y807.2.1 : List (Int × List Int × Bool))).bind fun z808 =>
          (some (y807.2.2.1 : List (List Int × Int × List Bool × Bool × Int × Bool × Int × (List (Int × Bool))))).bind fun z809 =>
          (some (y807.2.2.2.1 : List (Int × (List (Int × Int × Bool × List Int))))).bind fun z810 =>
          (some (y807.2.2.2.2 : List Int)).bind fun z811 =>
          bif (decide (y807.1 < (0 : Int))) then
            some false
          else
            (f_laws_eqNode y803.1 y803.2.1 y803.2.2.1 y803.2.2.2.1 y803.2.2.2.2.1 y801.1 y801.2.1 y801.2.2.1 y801.2.2.2.1 y801.2.2.2.2.1).bind fun y812 =>
            bif (!y812) then
              some false
            else
              bif (!(y803.2.2.2.2.2 == y801.2.2.2.2.2)) then
                some false
              else
                (f_laws_markNode y803.1 y803.2.1 y803.2.2.1 y803.2.2.2.1 y803.2.2.2.2.1 1).bind fun y813 =>
                (some (y813.2.1 : List (Int × List Int × Bool))).bind fun z814 =>
                (some (y813.2.2.1 : List (List Int × Int × List Bool × Bool × Int × Bool × Int × (List (Int × Bool))))).bind fun z815 =>
                (some (y813.2.2.2.1 : List (Int × (List (Int × Int × Bool × List Int))))).bind fun z816 =>
                (some (y813.2.2.2.2 : List Int)).bind fun z817 =>
                (f_laws_heldNode y803.1 z814 z815 z816 z817 1).bind fun y818 =>
                bif (decide (y818 < (0 : Int))) then
                  some false
                else
                  bif (!(decide (y818 = y813.1))) then
                    some false
                  else
                    (f_laws_toNode x0 x1 x2 x3 x4).bind fun y819 =>
                    (f_impl_Want y819.1 y819.2.1 y819.2.2.1 y819.2.2.2.1 y819.2.2.2.2 x5 x6 x7).bind fun y820 =>
                    (f_laws_eqNode y820.1 y820.2.1 y820.2.2.1 y820.2.2.2.1 y820.2.2.2.2.1 y801.1 y801.2.1 y801.2.2.1 y801.2.2.2.1 y801.2.2.2.2.1).bind fun y821 =>
                    bif (!y821) then
                      some false
                    else
                      bif (!(y820.2.2.2.2.2 == y801.2.2.2.2.2)) then
                        some false
                      else
                        (f_laws_heldNode y803.1 z814 z815 z816 z817 1).bind fun y822 =>
                        bif (decide (y822 < (0 : Int))) then
                          some false
                        else
                          bif (!(decide (y822 = y813.1))) then
                            some false
                          else
                            some true
noncomputable def C5 : Con := ⟨[(.B, true, [(.int .i64), (.sl R1), (.sl R4), (.sl R6), (.sl R0)]), (.B, false, [(.int .i64)]), (.B, false, [(.int .i64)]), (.B, false, [.bool])], [(false, [.bool])], [(.int .i64), (.sl R1), (.sl R4), (.sl R6), (.sl R0), (.int .i64), (.int .i64), .bool], [.bool], fun (p : Int × (List (Int × List Int × Bool)) × (List (List Int × Int × List Bool × Bool × Int × Bool × Int × (List (Int × Bool)))) × (List (Int × (List (Int × Int × Bool × List Int)))) × List Int × Int × Int × Bool) => f_laws_FnExactWant p.1 p.2.1 p.2.2.1 p.2.2.2.1 p.2.2.2.2.1 p.2.2.2.2.2.1 p.2.2.2.2.2.2.1 p.2.2.2.2.2.2.2⟩
noncomputable abbrev K5 : Cons := [(18, C18), (19, C19), (20, C20), (21, C21), (22, C22), (23, C23), (24, C24)]
noncomputable abbrev L5 : List (Nat × Loops) := []
abbrev Q5 : List (Nat × List (Int × Nat) × Nat) := []
noncomputable abbrev X5 : Nat → Ctx := ctxOf tb K5 L5 Q5
theorem E5 : ∀ x, funRun fs X5 6 5 C5 x = C5.fn x := fun x => by kernel_rfl
theorem B5 : ConB Tryz.prog 5 C5 := ConB.make FS MIX TY (cons := K5) (L := L5) (ptrs := Q5) ⟨S18, S19, S20, S21, S22, S23, S24, trivial⟩ trivial trivial rfl rfl E5
theorem S5 : ConS Tryz.prog 5 C5 := B5.call rfl
/-- What is left: the plain law. -/
def Pure : Prop := ∀ x : Tup [(.int .i64), (.sl R1), (.sl R4), (.sl R6), (.sl R0), (.int .i64), (.int .i64), .bool], WfT [(.int .i64), (.sl R1), (.sl R4), (.sl R6), (.sl R0), (.int .i64), (.int .i64), .bool] x → C5.fn x = some (true : Bool)
end
end Go.Abs
