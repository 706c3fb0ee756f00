/- the functions as the interpreter has them -/
import Derived.Test.YtgoidfkdnkjojaaGreatFn0
namespace Go.Eng
open Go.Proofs Go.Proofs.Tryz
set_option maxRecDepth 100000
theorem Lspec_l8Read_6v1_eq (p0 : Int) (p1 : Int) (p2 : Int) (p3 : Bool) (p4 : List D) (p5 : List D) : Lspec_l8Read_6v1 p0 p1 p2 p3 p4 p5 =
  br (decide (p1 < p0))
   (br p3
    (ocall V 30 [(.op [(.os (1, 0) p4), (.int .i64 p2), (.bool p3)])] fun x387 l388 =>
     asI .i64 x387 fun n389 => unc l388 fun x390 l391 => asOp x390 fun l392 => unc l392 fun x393 l394 => asOs (1, 0) x393 fun l395 => unc l394 fun x396 l397 => asI .i64 x396 fun n398 => unc l397 fun x399 l400 => asB x399 fun b401 => unn l400 (unn l391 (br (n389 == 2)
               (br (n389 == 2)
                (ocall V 30 [(.op [(.os (1, 0) l395), (.int .i64 n398), (.bool b401)])] fun x402 l403 =>
                 asI .i64 x402 fun n404 => unc l403 fun x405 l406 => asOp x405 fun l407 => unc l407 fun x408 l409 => asOs (1, 0) x408 fun l410 => unc l409 fun x411 l412 => asI .i64 x411 fun n413 => unc l412 fun x414 l415 => asB x414 fun b416 => unn l415 (unn l406 (grd (decide (ni (List.length (p5 ++ [D.agg [D.int IntKind.i64 n389, D.int IntKind.i64 n404, D.str { data := #[] }, D.int IntKind.i64 (0), D.int IntKind.i64 (0)]])) ≤ LIM)) (nam (p5 ++ [D.agg [D.int IntKind.i64 n389, D.int IntKind.i64 n404, D.str { data := #[] }, D.int IntKind.i64 (0), D.int IntKind.i64 (0)]]) fun l417 =>
                           Lspec_l8Read_6v1 p0 (IntKind.wrap IntKind.i64 (p1 + 1)) n413 b416 l410 l417))))
                (br (n389 == 3)
                 (ocall V 30 [(.op [(.os (1, 0) l395), (.int .i64 n398), (.bool b401)])] fun x418 l419 =>
                  asI .i64 x418 fun n420 => unc l419 fun x421 l422 => asOp x421 fun l423 => unc l423 fun x424 l425 => asOs (1, 0) x424 fun l426 => unc l425 fun x427 l428 => asI .i64 x427 fun n429 => unc l428 fun x430 l431 => asB x430 fun b432 => unn l431 (unn l422 (grd (decide (ni (List.length (p5 ++ [D.agg [D.int IntKind.i64 n389, D.int IntKind.i64 (IntKind.wrap IntKind.i64 (n420 - 1000000000)), D.str { data := #[] }, D.int IntKind.i64 (0), D.int IntKind.i64 (0)]])) ≤ LIM)) (nam (p5 ++ [D.agg [D.int IntKind.i64 n389, D.int IntKind.i64 (IntKind.wrap IntKind.i64 (n420 - 1000000000)), D.str { data := #[] }, D.int IntKind.i64 (0), D.int IntKind.i64 (0)]]) fun l433 =>
                            Lspec_l8Read_6v1 p0 (IntKind.wrap IntKind.i64 (p1 + 1)) n429 b432 l426 l433))))
                 (br (n389 == 4)
                  (ocall V 68 [(.rs (1, 0) l395), (.int .i64 n398)] fun x434 l435 =>
                   asTup x434 fun l436 => unc l436 fun x437 l438 => asS x437 fun s439 => unc l438 fun x440 l441 => asI .i64 x440 fun n442 => unc l441 fun x443 l444 => asB x443 fun b445 => unn l444 (unn l435 (br b401
                           (grd (decide (ni (List.length (p5 ++ [D.agg [D.int IntKind.i64 n389, D.int IntKind.i64 (0), D.str s439, D.int IntKind.i64 (0), D.int IntKind.i64 (0)]])) ≤ LIM)) (nam (p5 ++ [D.agg [D.int IntKind.i64 n389, D.int IntKind.i64 (0), D.str s439, D.int IntKind.i64 (0), D.int IntKind.i64 (0)]]) fun l446 =>
                            Lspec_l8Read_6v1 p0 (IntKind.wrap IntKind.i64 (p1 + 1)) n442 b445 l395 l446))
                           (grd (decide (ni (List.length (p5 ++ [D.agg [D.int IntKind.i64 n389, D.int IntKind.i64 (0), D.str s439, D.int IntKind.i64 (0), D.int IntKind.i64 (0)]])) ≤ LIM)) (nam (p5 ++ [D.agg [D.int IntKind.i64 n389, D.int IntKind.i64 (0), D.str s439, D.int IntKind.i64 (0), D.int IntKind.i64 (0)]]) fun l447 =>
                            Lspec_l8Read_6v1 p0 (IntKind.wrap IntKind.i64 (p1 + 1)) n442 false l395 l447)))))
                  (br (n389 == 5)
                   (ocall V 30 [(.op [(.os (1, 0) l395), (.int .i64 n398), (.bool b401)])] fun x448 l449 =>
                    asI .i64 x448 fun n450 => unc l449 fun x451 l452 => asOp x451 fun l453 => unc l453 fun x454 l455 => asOs (1, 0) x454 fun l456 => unc l455 fun x457 l458 => asI .i64 x457 fun n459 => unc l458 fun x460 l461 => asB x460 fun b462 => unn l461 (unn l452 (ocall V 30 [(.op [(.os (1, 0) l456), (.int .i64 n459), (.bool b462)])] fun x463 l464 =>
                              asI .i64 x463 fun n465 => unc l464 fun x466 l467 => asOp x466 fun l468 => unc l468 fun x469 l470 => asOs (1, 0) x469 fun l471 => unc l470 fun x472 l473 => asI .i64 x472 fun n474 => unc l473 fun x475 l476 => asB x475 fun b477 => unn l476 (unn l467 (grd (decide (ni (List.length (p5 ++ [D.agg [D.int IntKind.i64 n389, D.int IntKind.i64 (0), D.str { data := #[] }, D.int IntKind.i64 n450, D.int IntKind.i64 n465]])) ≤ LIM)) (nam (p5 ++ [D.agg [D.int IntKind.i64 n389, D.int IntKind.i64 (0), D.str { data := #[] }, D.int IntKind.i64 n450, D.int IntKind.i64 n465]]) fun l478 =>
                                        Lspec_l8Read_6v1 p0 (IntKind.wrap IntKind.i64 (p1 + 1)) n474 b477 l471 l478))))))
                   (br (n389 == 6)
                    (ocall V 30 [(.op [(.os (1, 0) l395), (.int .i64 n398), (.bool b401)])] fun x479 l480 =>
                     asI .i64 x479 fun n481 => unc l480 fun x482 l483 => asOp x482 fun l484 => unc l484 fun x485 l486 => asOs (1, 0) x485 fun l487 => unc l486 fun x488 l489 => asI .i64 x488 fun n490 => unc l489 fun x491 l492 => asB x491 fun b493 => unn l492 (unn l483 (ocall V 30 [(.op [(.os (1, 0) l487), (.int .i64 n490), (.bool b493)])] fun x494 l495 =>
                               asI .i64 x494 fun n496 => unc l495 fun x497 l498 => asOp x497 fun l499 => unc l499 fun x500 l501 => asOs (1, 0) x500 fun l502 => unc l501 fun x503 l504 => asI .i64 x503 fun n505 => unc l504 fun x506 l507 => asB x506 fun b508 => unn l507 (unn l498 (grd (decide (ni (List.length (p5 ++ [D.agg [D.int IntKind.i64 n389, D.int IntKind.i64 n481, D.str { data := #[] }, D.int IntKind.i64 n496, D.int IntKind.i64 (0)]])) ≤ LIM)) (nam (p5 ++ [D.agg [D.int IntKind.i64 n389, D.int IntKind.i64 n481, D.str { data := #[] }, D.int IntKind.i64 n496, D.int IntKind.i64 (0)]]) fun l509 =>
                                         Lspec_l8Read_6v1 p0 (IntKind.wrap IntKind.i64 (p1 + 1)) n505 b508 l502 l509))))))
                    (br (n389 == 7)
                     (ocall V 30 [(.op [(.os (1, 0) l395), (.int .i64 n398), (.bool b401)])] fun x510 l511 =>
                      asI .i64 x510 fun n512 => unc l511 fun x513 l514 => asOp x513 fun l515 => unc l515 fun x516 l517 => asOs (1, 0) x516 fun l518 => unc l517 fun x519 l520 => asI .i64 x519 fun n521 => unc l520 fun x522 l523 => asB x522 fun b524 => unn l523 (unn l514 (grd (decide (ni (List.length (p5 ++ [D.agg [D.int IntKind.i64 n389, D.int IntKind.i64 (0), D.str { data := #[] }, D.int IntKind.i64 n512, D.int IntKind.i64 (0)]])) ≤ LIM)) (nam (p5 ++ [D.agg [D.int IntKind.i64 n389, D.int IntKind.i64 (0), D.str { data := #[] }, D.int IntKind.i64 n512, D.int IntKind.i64 (0)]]) fun l525 =>
                                Lspec_l8Read_6v1 p0 (IntKind.wrap IntKind.i64 (p1 + 1)) n521 b524 l518 l525))))
                     (grd (decide (ni (List.length (p5 ++ [D.agg [D.int IntKind.i64 n389, D.int IntKind.i64 (0), D.str { data := #[] }, D.int IntKind.i64 (0), D.int IntKind.i64 (0)]])) ≤ LIM)) (nam (p5 ++ [D.agg [D.int IntKind.i64 n389, D.int IntKind.i64 (0), D.str { data := #[] }, D.int IntKind.i64 (0), D.int IntKind.i64 (0)]]) fun l526 =>
                      Lspec_l8Read_6v1 p0 (IntKind.wrap IntKind.i64 (p1 + 1)) n398 b401 l395 l526))))))))
               (br (n389 == 8)
                (br (n389 == 8)
                 (ocall V 30 [(.op [(.os (1, 0) l395), (.int .i64 n398), (.bool b401)])] fun x527 l528 =>
                  asI .i64 x527 fun n529 => unc l528 fun x530 l531 => asOp x530 fun l532 => unc l532 fun x533 l534 => asOs (1, 0) x533 fun l535 => unc l534 fun x536 l537 => asI .i64 x536 fun n538 => unc l537 fun x539 l540 => asB x539 fun b541 => unn l540 (unn l531 (grd (decide (ni (List.length (p5 ++ [D.agg [D.int IntKind.i64 n389, D.int IntKind.i64 n529, D.str { data := #[] }, D.int IntKind.i64 (0), D.int IntKind.i64 (0)]])) ≤ LIM)) (nam (p5 ++ [D.agg [D.int IntKind.i64 n389, D.int IntKind.i64 n529, D.str { data := #[] }, D.int IntKind.i64 (0), D.int IntKind.i64 (0)]]) fun l542 =>
                            Lspec_l8Read_6v1 p0 (IntKind.wrap IntKind.i64 (p1 + 1)) n538 b541 l535 l542))))
                 (br (n389 == 3)
                  (ocall V 30 [(.op [(.os (1, 0) l395), (.int .i64 n398), (.bool b401)])] fun x543 l544 =>
                   asI .i64 x543 fun n545 => unc l544 fun x546 l547 => asOp x546 fun l548 => unc l548 fun x549 l550 => asOs (1, 0) x549 fun l551 => unc l550 fun x552 l553 => asI .i64 x552 fun n554 => unc l553 fun x555 l556 => asB x555 fun b557 => unn l556 (unn l547 (grd (decide (ni (List.length (p5 ++ [D.agg [D.int IntKind.i64 n389, D.int IntKind.i64 (IntKind.wrap IntKind.i64 (n545 - 1000000000)), D.str { data := #[] }, D.int IntKind.i64 (0), D.int IntKind.i64 (0)]])) ≤ LIM)) (nam (p5 ++ [D.agg [D.int IntKind.i64 n389, D.int IntKind.i64 (IntKind.wrap IntKind.i64 (n545 - 1000000000)), D.str { data := #[] }, D.int IntKind.i64 (0), D.int IntKind.i64 (0)]]) fun l558 =>
                             Lspec_l8Read_6v1 p0 (IntKind.wrap IntKind.i64 (p1 + 1)) n554 b557 l551 l558))))
                  (br (n389 == 4)
                   (ocall V 68 [(.rs (1, 0) l395), (.int .i64 n398)] fun x559 l560 =>
                    asTup x559 fun l561 => unc l561 fun x562 l563 => asS x562 fun s564 => unc l563 fun x565 l566 => asI .i64 x565 fun n567 => unc l566 fun x568 l569 => asB x568 fun b570 => unn l569 (unn l560 (br b401
                            (grd (decide (ni (List.length (p5 ++ [D.agg [D.int IntKind.i64 n389, D.int IntKind.i64 (0), D.str s564, D.int IntKind.i64 (0), D.int IntKind.i64 (0)]])) ≤ LIM)) (nam (p5 ++ [D.agg [D.int IntKind.i64 n389, D.int IntKind.i64 (0), D.str s564, D.int IntKind.i64 (0), D.int IntKind.i64 (0)]]) fun l571 =>
                             Lspec_l8Read_6v1 p0 (IntKind.wrap IntKind.i64 (p1 + 1)) n567 b570 l395 l571))
                            (grd (decide (ni (List.length (p5 ++ [D.agg [D.int IntKind.i64 n389, D.int IntKind.i64 (0), D.str s564, D.int IntKind.i64 (0), D.int IntKind.i64 (0)]])) ≤ LIM)) (nam (p5 ++ [D.agg [D.int IntKind.i64 n389, D.int IntKind.i64 (0), D.str s564, D.int IntKind.i64 (0), D.int IntKind.i64 (0)]]) fun l572 =>
                             Lspec_l8Read_6v1 p0 (IntKind.wrap IntKind.i64 (p1 + 1)) n567 false l395 l572)))))
                   (br (n389 == 5)
                    (ocall V 30 [(.op [(.os (1, 0) l395), (.int .i64 n398), (.bool b401)])] fun x573 l574 =>
                     asI .i64 x573 fun n575 => unc l574 fun x576 l577 => asOp x576 fun l578 => unc l578 fun x579 l580 => asOs (1, 0) x579 fun l581 => unc l580 fun x582 l583 => asI .i64 x582 fun n584 => unc l583 fun x585 l586 => asB x585 fun b587 => unn l586 (unn l577 (ocall V 30 [(.op [(.os (1, 0) l581), (.int .i64 n584), (.bool b587)])] fun x588 l589 =>
                               asI .i64 x588 fun n590 => unc l589 fun x591 l592 => asOp x591 fun l593 => unc l593 fun x594 l595 => asOs (1, 0) x594 fun l596 => unc l595 fun x597 l598 => asI .i64 x597 fun n599 => unc l598 fun x600 l601 => asB x600 fun b602 => unn l601 (unn l592 (grd (decide (ni (List.length (p5 ++ [D.agg [D.int IntKind.i64 n389, D.int IntKind.i64 (0), D.str { data := #[] }, D.int IntKind.i64 n575, D.int IntKind.i64 n590]])) ≤ LIM)) (nam (p5 ++ [D.agg [D.int IntKind.i64 n389, D.int IntKind.i64 (0), D.str { data := #[] }, D.int IntKind.i64 n575, D.int IntKind.i64 n590]]) fun l603 =>
                                         Lspec_l8Read_6v1 p0 (IntKind.wrap IntKind.i64 (p1 + 1)) n599 b602 l596 l603))))))
                    (br (n389 == 6)
                     (ocall V 30 [(.op [(.os (1, 0) l395), (.int .i64 n398), (.bool b401)])] fun x604 l605 =>
                      asI .i64 x604 fun n606 => unc l605 fun x607 l608 => asOp x607 fun l609 => unc l609 fun x610 l611 => asOs (1, 0) x610 fun l612 => unc l611 fun x613 l614 => asI .i64 x613 fun n615 => unc l614 fun x616 l617 => asB x616 fun b618 => unn l617 (unn l608 (ocall V 30 [(.op [(.os (1, 0) l612), (.int .i64 n615), (.bool b618)])] fun x619 l620 =>
                                asI .i64 x619 fun n621 => unc l620 fun x622 l623 => asOp x622 fun l624 => unc l624 fun x625 l626 => asOs (1, 0) x625 fun l627 => unc l626 fun x628 l629 => asI .i64 x628 fun n630 => unc l629 fun x631 l632 => asB x631 fun b633 => unn l632 (unn l623 (grd (decide (ni (List.length (p5 ++ [D.agg [D.int IntKind.i64 n389, D.int IntKind.i64 n606, D.str { data := #[] }, D.int IntKind.i64 n621, D.int IntKind.i64 (0)]])) ≤ LIM)) (nam (p5 ++ [D.agg [D.int IntKind.i64 n389, D.int IntKind.i64 n606, D.str { data := #[] }, D.int IntKind.i64 n621, D.int IntKind.i64 (0)]]) fun l634 =>
                                          Lspec_l8Read_6v1 p0 (IntKind.wrap IntKind.i64 (p1 + 1)) n630 b633 l627 l634))))))
                     (br (n389 == 7)
                      (ocall V 30 [(.op [(.os (1, 0) l395), (.int .i64 n398), (.bool b401)])] fun x635 l636 =>
                       asI .i64 x635 fun n637 => unc l636 fun x638 l639 => asOp x638 fun l640 => unc l640 fun x641 l642 => asOs (1, 0) x641 fun l643 => unc l642 fun x644 l645 => asI .i64 x644 fun n646 => unc l645 fun x647 l648 => asB x647 fun b649 => unn l648 (unn l639 (grd (decide (ni (List.length (p5 ++ [D.agg [D.int IntKind.i64 n389, D.int IntKind.i64 (0), D.str { data := #[] }, D.int IntKind.i64 n637, D.int IntKind.i64 (0)]])) ≤ LIM)) (nam (p5 ++ [D.agg [D.int IntKind.i64 n389, D.int IntKind.i64 (0), D.str { data := #[] }, D.int IntKind.i64 n637, D.int IntKind.i64 (0)]]) fun l650 =>
                                 Lspec_l8Read_6v1 p0 (IntKind.wrap IntKind.i64 (p1 + 1)) n646 b649 l643 l650))))
                      (grd (decide (ni (List.length (p5 ++ [D.agg [D.int IntKind.i64 n389, D.int IntKind.i64 (0), D.str { data := #[] }, D.int IntKind.i64 (0), D.int IntKind.i64 (0)]])) ≤ LIM)) (nam (p5 ++ [D.agg [D.int IntKind.i64 n389, D.int IntKind.i64 (0), D.str { data := #[] }, D.int IntKind.i64 (0), D.int IntKind.i64 (0)]]) fun l651 =>
                       Lspec_l8Read_6v1 p0 (IntKind.wrap IntKind.i64 (p1 + 1)) n398 b401 l395 l651))))))))
                (br (n389 == 9)
                 (ocall V 30 [(.op [(.os (1, 0) l395), (.int .i64 n398), (.bool b401)])] fun x652 l653 =>
                  asI .i64 x652 fun n654 => unc l653 fun x655 l656 => asOp x655 fun l657 => unc l657 fun x658 l659 => asOs (1, 0) x658 fun l660 => unc l659 fun x661 l662 => asI .i64 x661 fun n663 => unc l662 fun x664 l665 => asB x664 fun b666 => unn l665 (unn l656 (grd (decide (ni (List.length (p5 ++ [D.agg [D.int IntKind.i64 n389, D.int IntKind.i64 n654, D.str { data := #[] }, D.int IntKind.i64 (0), D.int IntKind.i64 (0)]])) ≤ LIM)) (nam (p5 ++ [D.agg [D.int IntKind.i64 n389, D.int IntKind.i64 n654, D.str { data := #[] }, D.int IntKind.i64 (0), D.int IntKind.i64 (0)]]) fun l667 =>
                            Lspec_l8Read_6v1 p0 (IntKind.wrap IntKind.i64 (p1 + 1)) n663 b666 l660 l667))))
                 (br (n389 == 3)
                  (ocall V 30 [(.op [(.os (1, 0) l395), (.int .i64 n398), (.bool b401)])] fun x668 l669 =>
                   asI .i64 x668 fun n670 => unc l669 fun x671 l672 => asOp x671 fun l673 => unc l673 fun x674 l675 => asOs (1, 0) x674 fun l676 => unc l675 fun x677 l678 => asI .i64 x677 fun n679 => unc l678 fun x680 l681 => asB x680 fun b682 => unn l681 (unn l672 (grd (decide (ni (List.length (p5 ++ [D.agg [D.int IntKind.i64 n389, D.int IntKind.i64 (IntKind.wrap IntKind.i64 (n670 - 1000000000)), D.str { data := #[] }, D.int IntKind.i64 (0), D.int IntKind.i64 (0)]])) ≤ LIM)) (nam (p5 ++ [D.agg [D.int IntKind.i64 n389, D.int IntKind.i64 (IntKind.wrap IntKind.i64 (n670 - 1000000000)), D.str { data := #[] }, D.int IntKind.i64 (0), D.int IntKind.i64 (0)]]) fun l683 =>
                             Lspec_l8Read_6v1 p0 (IntKind.wrap IntKind.i64 (p1 + 1)) n679 b682 l676 l683))))
                  (br (n389 == 4)
                   (ocall V 68 [(.rs (1, 0) l395), (.int .i64 n398)] fun x684 l685 =>
                    asTup x684 fun l686 => unc l686 fun x687 l688 => asS x687 fun s689 => unc l688 fun x690 l691 => asI .i64 x690 fun n692 => unc l691 fun x693 l694 => asB x693 fun b695 => unn l694 (unn l685 (br b401
                            (grd (decide (ni (List.length (p5 ++ [D.agg [D.int IntKind.i64 n389, D.int IntKind.i64 (0), D.str s689, D.int IntKind.i64 (0), D.int IntKind.i64 (0)]])) ≤ LIM)) (nam (p5 ++ [D.agg [D.int IntKind.i64 n389, D.int IntKind.i64 (0), D.str s689, D.int IntKind.i64 (0), D.int IntKind.i64 (0)]]) fun l696 =>
                             Lspec_l8Read_6v1 p0 (IntKind.wrap IntKind.i64 (p1 + 1)) n692 b695 l395 l696))
                            (grd (decide (ni (List.length (p5 ++ [D.agg [D.int IntKind.i64 n389, D.int IntKind.i64 (0), D.str s689, D.int IntKind.i64 (0), D.int IntKind.i64 (0)]])) ≤ LIM)) (nam (p5 ++ [D.agg [D.int IntKind.i64 n389, D.int IntKind.i64 (0), D.str s689, D.int IntKind.i64 (0), D.int IntKind.i64 (0)]]) fun l697 =>
                             Lspec_l8Read_6v1 p0 (IntKind.wrap IntKind.i64 (p1 + 1)) n692 false l395 l697)))))
                   (br (n389 == 5)
                    (ocall V 30 [(.op [(.os (1, 0) l395), (.int .i64 n398), (.bool b401)])] fun x698 l699 =>
                     asI .i64 x698 fun n700 => unc l699 fun x701 l702 => asOp x701 fun l703 => unc l703 fun x704 l705 => asOs (1, 0) x704 fun l706 => unc l705 fun x707 l708 => asI .i64 x707 fun n709 => unc l708 fun x710 l711 => asB x710 fun b712 => unn l711 (unn l702 (ocall V 30 [(.op [(.os (1, 0) l706), (.int .i64 n709), (.bool b712)])] fun x713 l714 =>
                               asI .i64 x713 fun n715 => unc l714 fun x716 l717 => asOp x716 fun l718 => unc l718 fun x719 l720 => asOs (1, 0) x719 fun l721 => unc l720 fun x722 l723 => asI .i64 x722 fun n724 => unc l723 fun x725 l726 => asB x725 fun b727 => unn l726 (unn l717 (grd (decide (ni (List.length (p5 ++ [D.agg [D.int IntKind.i64 n389, D.int IntKind.i64 (0), D.str { data := #[] }, D.int IntKind.i64 n700, D.int IntKind.i64 n715]])) ≤ LIM)) (nam (p5 ++ [D.agg [D.int IntKind.i64 n389, D.int IntKind.i64 (0), D.str { data := #[] }, D.int IntKind.i64 n700, D.int IntKind.i64 n715]]) fun l728 =>
                                         Lspec_l8Read_6v1 p0 (IntKind.wrap IntKind.i64 (p1 + 1)) n724 b727 l721 l728))))))
                    (br (n389 == 6)
                     (ocall V 30 [(.op [(.os (1, 0) l395), (.int .i64 n398), (.bool b401)])] fun x729 l730 =>
                      asI .i64 x729 fun n731 => unc l730 fun x732 l733 => asOp x732 fun l734 => unc l734 fun x735 l736 => asOs (1, 0) x735 fun l737 => unc l736 fun x738 l739 => asI .i64 x738 fun n740 => unc l739 fun x741 l742 => asB x741 fun b743 => unn l742 (unn l733 (ocall V 30 [(.op [(.os (1, 0) l737), (.int .i64 n740), (.bool b743)])] fun x744 l745 =>
                                asI .i64 x744 fun n746 => unc l745 fun x747 l748 => asOp x747 fun l749 => unc l749 fun x750 l751 => asOs (1, 0) x750 fun l752 => unc l751 fun x753 l754 => asI .i64 x753 fun n755 => unc l754 fun x756 l757 => asB x756 fun b758 => unn l757 (unn l748 (grd (decide (ni (List.length (p5 ++ [D.agg [D.int IntKind.i64 n389, D.int IntKind.i64 n731, D.str { data := #[] }, D.int IntKind.i64 n746, D.int IntKind.i64 (0)]])) ≤ LIM)) (nam (p5 ++ [D.agg [D.int IntKind.i64 n389, D.int IntKind.i64 n731, D.str { data := #[] }, D.int IntKind.i64 n746, D.int IntKind.i64 (0)]]) fun l759 =>
                                          Lspec_l8Read_6v1 p0 (IntKind.wrap IntKind.i64 (p1 + 1)) n755 b758 l752 l759))))))
                     (br (n389 == 7)
                      (ocall V 30 [(.op [(.os (1, 0) l395), (.int .i64 n398), (.bool b401)])] fun x760 l761 =>
                       asI .i64 x760 fun n762 => unc l761 fun x763 l764 => asOp x763 fun l765 => unc l765 fun x766 l767 => asOs (1, 0) x766 fun l768 => unc l767 fun x769 l770 => asI .i64 x769 fun n771 => unc l770 fun x772 l773 => asB x772 fun b774 => unn l773 (unn l764 (grd (decide (ni (List.length (p5 ++ [D.agg [D.int IntKind.i64 n389, D.int IntKind.i64 (0), D.str { data := #[] }, D.int IntKind.i64 n762, D.int IntKind.i64 (0)]])) ≤ LIM)) (nam (p5 ++ [D.agg [D.int IntKind.i64 n389, D.int IntKind.i64 (0), D.str { data := #[] }, D.int IntKind.i64 n762, D.int IntKind.i64 (0)]]) fun l775 =>
                                 Lspec_l8Read_6v1 p0 (IntKind.wrap IntKind.i64 (p1 + 1)) n771 b774 l768 l775))))
                      (grd (decide (ni (List.length (p5 ++ [D.agg [D.int IntKind.i64 n389, D.int IntKind.i64 (0), D.str { data := #[] }, D.int IntKind.i64 (0), D.int IntKind.i64 (0)]])) ≤ LIM)) (nam (p5 ++ [D.agg [D.int IntKind.i64 n389, D.int IntKind.i64 (0), D.str { data := #[] }, D.int IntKind.i64 (0), D.int IntKind.i64 (0)]]) fun l776 =>
                       Lspec_l8Read_6v1 p0 (IntKind.wrap IntKind.i64 (p1 + 1)) n398 b401 l395 l776))))))))))))
    (br p3
     (br (p2 == ni (List.length p4))
      (ocall V 69 [(.agg [(.rs (5, 0) p5)])] fun x777 l778 =>
       asB x777 fun b779 => unn l778 (some ((.agg [(.os (5, 0) p5)]), [(.op [(.os (1, 0) p4), (.int .i64 p2), (.bool b779)])])))
      (some ((.agg [(.os (5, 0) p5)]), [(.op [(.os (1, 0) p4), (.int .i64 p2), (.bool false)])])))
     (some ((.agg [(.os (5, 0) p5)]), [(.op [(.os (1, 0) p4), (.int .i64 p2), (.bool false)])]))))
   (br p3
    (br (p2 == ni (List.length p4))
     (ocall V 69 [(.agg [(.rs (5, 0) p5)])] fun x780 l781 =>
      asB x780 fun b782 => unn l781 (some ((.agg [(.os (5, 0) p5)]), [(.op [(.os (1, 0) p4), (.int .i64 p2), (.bool b782)])])))
     (some ((.agg [(.os (5, 0) p5)]), [(.op [(.os (1, 0) p4), (.int .i64 p2), (.bool false)])])))
    (some ((.agg [(.os (5, 0) p5)]), [(.op [(.os (1, 0) p4), (.int .i64 p2), (.bool false)])]))) := by
  exact (Rn_eq _ _ _).trans (by kernel_rfl)
theorem eimpl_MachineRead (a0_0 : List D) (a0_1 : List D) (a0_2 : List D) (a1_ : ByteArray) : V 10 [.agg [.rs (5, 0) a0_0, .rs (4, 0) a0_1, .rs (3, 0) a0_2], .str a1_] =
  ocall V 36 [(.op [(.os (1, 0) (bytesD a1_)), (.int .i64 (0)), (.bool true)])] fun x0 l1 =>
   asI .i64 x0 fun n2 => unc l1 fun x3 l4 => asOp x3 fun l5 => unc l5 fun x6 l7 => asOs (1, 0) x6 fun l8 => unc l7 fun x9 l10 => asI .i64 x9 fun n11 => unc l10 fun x12 l13 => asB x12 fun b14 => unn l13 (unn l4 (ocall V 36 [(.op [(.os (1, 0) l8), (.int .i64 n11), (.bool b14)])] fun x15 l16 =>
             asI .i64 x15 fun n17 => unc l16 fun x18 l19 => asOp x18 fun l20 => unc l20 fun x21 l22 => asOs (1, 0) x21 fun l23 => unc l22 fun x24 l25 => asI .i64 x24 fun n26 => unc l25 fun x27 l28 => asB x27 fun b29 => unn l28 (unn l19 (ocall V 36 [(.op [(.os (1, 0) l23), (.int .i64 n26), (.bool b29)])] fun x30 l31 =>
                       asI .i64 x30 fun n32 => unc l31 fun x33 l34 => asOp x33 fun l35 => unc l35 fun x36 l37 => asOs (1, 0) x36 fun l38 => unc l37 fun x39 l40 => asI .i64 x39 fun n41 => unc l40 fun x42 l43 => asB x42 fun b44 => unn l43 (unn l34 (ocall V 36 [(.op [(.os (1, 0) l38), (.int .i64 n41), (.bool b44)])] fun x45 l46 =>
                                 asI .i64 x45 fun n47 => unc l46 fun x48 l49 => asOp x48 fun l50 => unc l50 fun x51 l52 => asOs (1, 0) x51 fun l53 => unc l52 fun x54 l55 => asI .i64 x54 fun n56 => unc l55 fun x57 l58 => asB x57 fun b59 => unn l58 (unn l49 (ocall V 36 [(.op [(.os (1, 0) l53), (.int .i64 n56), (.bool b59)])] fun x60 l61 =>
                                           asI .i64 x60 fun n62 => unc l61 fun x63 l64 => asOp x63 fun l65 => unc l65 fun x66 l67 => asOs (1, 0) x66 fun l68 => unc l67 fun x69 l70 => asI .i64 x69 fun n71 => unc l70 fun x72 l73 => asB x72 fun b74 => unn l73 (unn l64 (ocall V 36 [(.op [(.os (1, 0) l68), (.int .i64 n71), (.bool b74)])] fun x75 l76 =>
                                                     asI .i64 x75 fun n77 => unc l76 fun x78 l79 => asOp x78 fun l80 => unc l80 fun x81 l82 => asOs (1, 0) x81 fun l83 => unc l82 fun x84 l85 => asI .i64 x84 fun n86 => unc l85 fun x87 l88 => asB x87 fun b89 => unn l88 (unn l79 (ocall V 36 [(.op [(.os (1, 0) l83), (.int .i64 n86), (.bool b89)])] fun x90 l91 =>
                                                               asI .i64 x90 fun n92 => unc l91 fun x93 l94 => asOp x93 fun l95 => unc l95 fun x96 l97 => asOs (1, 0) x96 fun l98 => unc l97 fun x99 l100 => asI .i64 x99 fun n101 => unc l100 fun x102 l103 => asB x102 fun b104 => unn l103 (unn l94 (ocall V 37 [(.op [(.os (1, 0) l98), (.int .i64 n101), (.bool b104)])] fun x105 l106 =>
                                                                         asAgg x105 fun l107 => unc l107 fun x108 l109 => asOs (5, 0) x108 fun l110 => unn l109 (unc l106 fun x111 l112 => asOp x111 fun l113 => unc l113 fun x114 l115 => asOs (1, 0) x114 fun _ => unc l115 fun x117 l118 => asI .i64 x117 fun _ => unc l118 fun x120 l121 => asB x120 fun b122 => unn l121 (unn l112 (ocall V 38 [(.agg [(.rs (5, 0) a0_0), (.rs (4, 0) a0_1), (.rs (3, 0) a0_2)]), (.agg [(.rs (5, 0) l110), (.int .i64 n2), (.int .i64 n47), (.int .i64 n62), (.int .i64 n77), (.int .i64 n17), (.int .i64 n32), (.int .i64 n92)])] fun x123 l124 =>
                                                                                     asTup x123 fun l125 => unc l125 fun x126 l127 => asS x126 fun s128 => unc l127 fun x129 l130 => asB x129 fun b131 => unn l130 (unn l124 (br (!b122)
                                                                                           (some ((.tup [(.agg [(.os (5, 0) []), (.int .i64 (0)), (.int .i64 (0)), (.int .i64 (0)), (.int .i64 (0)), (.int .i64 (0)), (.int .i64 (0)), (.int .i64 (0))]), (.bool false)]), []))
                                                                                           (br (!b131)
                                                                                            (some ((.tup [(.agg [(.os (5, 0) []), (.int .i64 (0)), (.int .i64 (0)), (.int .i64 (0)), (.int .i64 (0)), (.int .i64 (0)), (.int .i64 (0)), (.int .i64 (0))]), (.bool false)]), []))
                                                                                            (br (!strEq s128 a1_)
                                                                                             (some ((.tup [(.agg [(.os (5, 0) []), (.int .i64 (0)), (.int .i64 (0)), (.int .i64 (0)), (.int .i64 (0)), (.int .i64 (0)), (.int .i64 (0)), (.int .i64 (0))]), (.bool false)]), []))
                                                                                             (some ((.tup [(.agg [(.os (5, 0) l110), (.int .i64 n2), (.int .i64 n47), (.int .i64 n62), (.int .i64 n77), (.int .i64 n17), (.int .i64 n32), (.int .i64 n92)]), (.bool true)]), []))))))))))))))))))))))) := by
  exact (Vn_eq Tryz.func10 rfl _).trans (by kernel_rfl)
theorem Limpl_GetNum_5_eq (p0 : List D) (p1 : Int) (p2 : Int) (p3 : Int) : Limpl_GetNum_5 p0 p1 p2 p3 =
  br (decide (p3 < 9))
   (br (decide (IntKind.wrap IntKind.i64 (p1 + p3) < ni (List.length p0)))
    (grd (decide (0 ≤ IntKind.wrap IntKind.i64 (p1 + p3)) && decide (IntKind.wrap IntKind.i64 (p1 + p3) < ni (List.length p0))) (oget p0 (Int.toNat (IntKind.wrap IntKind.i64 (p1 + p3))) fun x3 =>
     asI .u8 x3 fun n4 => grd (!decide (128 = 0)) (grd (!decide (IntKind.wrap IntKind.i64 (7 * p3) < 0)) (br (decide (n4 < 128))
       (br (n4 == 0)
        (br (decide (p3 > 0))
         (some ((.tup [(.int .i64 (0)), (.int .i64 (0)), (.bool false)]), []))
         (some ((.tup [(.int .i64 (IntKind.wrap IntKind.i64 (ni (BitVec.toNat (BitVec.ofInt (IntKind.bits IntKind.i64) p2 ||| BitVec.ofInt (IntKind.bits IntKind.i64) (IntKind.wrap IntKind.i64 (IntKind.wrap IntKind.i64 (Int.tmod n4 (128)) * 2 ^ min (Int.toNat (IntKind.wrap IntKind.i64 (7 * p3))) (IntKind.bits IntKind.i64)))))))), (.int .i64 (IntKind.wrap IntKind.i64 (IntKind.wrap IntKind.i64 (p1 + p3) + 1))), (.bool true)]), [])))
        (some ((.tup [(.int .i64 (IntKind.wrap IntKind.i64 (ni (BitVec.toNat (BitVec.ofInt (IntKind.bits IntKind.i64) p2 ||| BitVec.ofInt (IntKind.bits IntKind.i64) (IntKind.wrap IntKind.i64 (IntKind.wrap IntKind.i64 (Int.tmod n4 (128)) * 2 ^ min (Int.toNat (IntKind.wrap IntKind.i64 (7 * p3))) (IntKind.bits IntKind.i64)))))))), (.int .i64 (IntKind.wrap IntKind.i64 (IntKind.wrap IntKind.i64 (p1 + p3) + 1))), (.bool true)]), [])))
       (Limpl_GetNum_5 p0 p1 (IntKind.wrap IntKind.i64 (ni (BitVec.toNat (BitVec.ofInt (IntKind.bits IntKind.i64) p2 ||| BitVec.ofInt (IntKind.bits IntKind.i64) (IntKind.wrap IntKind.i64 (IntKind.wrap IntKind.i64 (Int.tmod n4 (128)) * 2 ^ min (Int.toNat (IntKind.wrap IntKind.i64 (7 * p3))) (IntKind.bits IntKind.i64))))))) (IntKind.wrap IntKind.i64 (p3 + 1)))))))
    (some ((.tup [(.int .i64 (0)), (.int .i64 (0)), (.bool false)]), [])))
   (some ((.tup [(.int .i64 (0)), (.int .i64 (0)), (.bool false)]), [])) := by
  exact (Rn_eq _ _ _).trans (by kernel_rfl)
theorem elaws_markProc (a0_0 : Int) (a0_1 : List D) (a0_2 : Int) (a0_3 : Int) (a0_4 : Int) (a0_5 : Int) (a0_6 : Int) (a0_7 : Int) (a0_8 : Int) (a0_9 : List D) (a0_10 : List D) (a1_ : Int) : V 19 [.agg [.int .i64 a0_0, .os (5, 0) a0_1, .int .i64 a0_2, .int .i64 a0_3, .int .i64 a0_4, .int .i64 a0_5, .int .i64 a0_6, .int .i64 a0_7, .int .i64 a0_8, .os (1, 0) a0_9, .os (1, 0) a0_10], .int .i64 a1_] =
  ocall V 14 [(.agg [(.os (5, 0) a0_1), (.int .i64 a0_2), (.int .i64 a0_3), (.int .i64 a0_4), (.int .i64 a0_5), (.int .i64 a0_6), (.int .i64 a0_7), (.int .i64 a0_8)]), (.int .i64 a1_)] fun x0 l1 =>
   asI .i64 x0 fun n2 => unc l1 fun x3 l4 => asAgg x3 fun l5 => unc l5 fun x6 l7 => asOs (5, 0) x6 fun l8 => unc l7 fun x9 l10 => asI .i64 x9 fun _ => unc l10 fun x12 l13 => asI .i64 x12 fun _ => unc l13 fun x15 l16 => asI .i64 x15 fun _ => unc l16 fun x18 l19 => asI .i64 x18 fun _ => unc l19 fun x21 l22 => asI .i64 x21 fun _ => unc l22 fun x24 l25 => asI .i64 x24 fun _ => unc l25 fun x27 l28 => asI .i64 x27 fun _ => unn l28 (unn l4 (ocall V 51 [(.os (1, 0) a0_9), (.int .i64 n2)] fun x30 l31 =>
                       asI .i64 x30 fun n32 => unc l31 fun x33 l34 => asOs (1, 0) x33 fun l35 => unn l34 (ocall V 51 [(.os (1, 0) a0_10), (.int .i64 n32)] fun x36 l37 =>
                           asI .i64 x36 fun n38 => unc l37 fun x39 l40 => asOs (1, 0) x39 fun l41 => unn l40 (some ((.int .i64 n38), [(.agg [(.int .i64 a0_0), (.os (5, 0) l8), (.int .i64 a0_2), (.int .i64 a0_3), (.int .i64 a0_4), (.int .i64 a0_5), (.int .i64 a0_6), (.int .i64 a0_7), (.int .i64 a0_8), (.os (1, 0) l35), (.os (1, 0) l41)])]))))) := by
  exact (Vn_eq Tryz.func19 rfl _).trans (by kernel_rfl)
theorem Lspec_GetNum_6_eq (p0 : List D) (p1 : Int) (p2 : Int) (p3 : Int) (p4 : Int) : Lspec_GetNum_6 p0 p1 p2 p3 p4 =
  br (decide (p4 < 9))
   (br (decide (IntKind.wrap IntKind.i64 (p1 + p4) < ni (List.length p0)))
    (grd (decide (0 ≤ IntKind.wrap IntKind.i64 (p1 + p4)) && decide (IntKind.wrap IntKind.i64 (p1 + p4) < ni (List.length p0))) (oget p0 (Int.toNat (IntKind.wrap IntKind.i64 (p1 + p4))) fun x0 =>
     asI .u8 x0 fun n1 => grd (!decide (128 = 0)) (br (decide (IntKind.wrap IntKind.i64 n1 < 128))
       (br (IntKind.wrap IntKind.i64 n1 == 0)
        (br (decide (p4 > 0))
         (some ((.tup [(.int .i64 (0)), (.int .i64 (0)), (.bool false)]), []))
         (some ((.tup [(.int .i64 (IntKind.wrap IntKind.i64 (p2 + IntKind.wrap IntKind.i64 (Int.tmod (IntKind.wrap IntKind.i64 n1) (128) * p3)))), (.int .i64 (IntKind.wrap IntKind.i64 (IntKind.wrap IntKind.i64 (p1 + p4) + 1))), (.bool true)]), [])))
        (some ((.tup [(.int .i64 (IntKind.wrap IntKind.i64 (p2 + IntKind.wrap IntKind.i64 (Int.tmod (IntKind.wrap IntKind.i64 n1) (128) * p3)))), (.int .i64 (IntKind.wrap IntKind.i64 (IntKind.wrap IntKind.i64 (p1 + p4) + 1))), (.bool true)]), [])))
       (Lspec_GetNum_6 p0 p1 (IntKind.wrap IntKind.i64 (p2 + IntKind.wrap IntKind.i64 (Int.tmod (IntKind.wrap IntKind.i64 n1) (128) * p3))) (IntKind.wrap IntKind.i64 (p3 * 128)) (IntKind.wrap IntKind.i64 (p4 + 1))))))
    (some ((.tup [(.int .i64 (0)), (.int .i64 (0)), (.bool false)]), [])))
   (some ((.tup [(.int .i64 (0)), (.int .i64 (0)), (.bool false)]), [])) := by
  exact (Rn_eq _ _ _).trans (by kernel_rfl)
theorem Limpl_CodeOk_10_eq (p0 : List D) (p1 : Int) (p2 : Int) (p3 : List D) (p4 : List D) (p5 : List D) : Limpl_CodeOk_10 p0 p1 p2 p3 p4 p5 =
  br (decide (p2 < p1))
   (grd (decide (0 ≤ p2) && decide (p2 < ni (List.length p0))) (oget p0 (Int.toNat p2) fun x6 =>
    asAgg x6 fun l7 => unc l7 fun x8 l9 => asS x8 fun s10 => unc l9 fun x11 l12 => asI .i64 x11 fun n13 => unc l12 fun x14 l15 => asI .i64 x14 fun n16 => unn l15 (ocall V 120 [(.str s10)] fun x17 l18 =>
            asB x17 fun b19 => unn l18 (br (!b19)
              (some ((.bool false), []))
              (ocall V 91 [(.agg [(.rs (5, 0) p3), (.rs (4, 0) p4), (.rs (3, 0) p5)]), (.str s10)] fun x20 l21 =>
               asI .i64 x20 fun n22 => unn l21 (br (n22 != p2)
                 (some ((.bool false), []))
                 (ocall V 93 [(.int .i64 n13), (.int .i64 (0)), (.int .i64 (IntKind.wrap IntKind.i64 (ni (List.length p4) - 1)))] fun x23 l24 =>
                  asB x23 fun b25 => unn l24 (br (!b25)
                    (some ((.bool false), []))
                    (ocall V 93 [(.int .i64 n16), (.int .i64 (0)), (.int .i64 (4))] fun x26 l27 =>
                     asB x26 fun b28 => unn l27 (br (!b28)
                       (some ((.bool false), []))
                       (Limpl_CodeOk_10 p0 p1 (IntKind.wrap IntKind.i64 (p2 + 1)) p3 p4 p5)))))))))))
   (some ((.bool true), [])) := by
  exact (Rn_eq _ _ _).trans (by kernel_rfl)
theorem Llaws_markDefS_2_eq (p0 : Int) (p1 : Int) (p2 : List D) : Llaws_markDefS_2 p0 p1 p2 =
  br (decide (p1 < ni (List.length p2)))
   (ocall V 85 [(.int .i64 p0)] fun x0 l1 =>
    asS x0 fun s2 => unn l1 (grd (decide (0 ≤ p1) && decide (p1 < ni (List.length p2))) (oget p2 (Int.toNat p1) fun x3 =>
      asAgg x3 fun l4 => nam (List.set p2 (Int.toNat p1) (D.agg (List.take 0 l4 ++ [D.str s2] ++ List.drop 1 l4))) fun l5 =>
        grd (decide (0 ≤ p1) && decide (p1 < ni (List.length l5))) (oget l5 (Int.toNat p1) fun x6 =>
         asAgg x6 fun l7 => nam (List.set l5 (Int.toNat p1) (D.agg (List.take 1 l7 ++ [D.int IntKind.i64 (IntKind.wrap IntKind.i64 (p0 + 1))] ++ List.drop 2 l7))) fun l8 =>
           grd (decide (0 ≤ p1) && decide (p1 < ni (List.length l8))) (oget l8 (Int.toNat p1) fun x9 =>
            asAgg x9 fun l10 => nam (List.set l8 (Int.toNat p1) (D.agg (List.take 2 l10 ++ [D.int IntKind.i64 (IntKind.wrap IntKind.i64 (IntKind.wrap IntKind.i64 (p0 + 1) + 1))] ++ List.drop 3 l10))) fun l11 =>
              Llaws_markDefS_2 (IntKind.wrap IntKind.i64 (IntKind.wrap IntKind.i64 (IntKind.wrap IntKind.i64 (p0 + 1) + 1) + 1)) (IntKind.wrap IntKind.i64 (p1 + 1)) l11)))))
   (some ((.int .i64 p0), [(.os (3, 0) p2)])) := by
  exact (Rn_eq _ _ _).trans (by kernel_rfl)
theorem Llaws_toInstrS_3_eq (p0 : List D) (p1 : Int) (p2 : List D) : Llaws_toInstrS_3 p0 p1 p2 =
  br (decide (p1 < ni (List.length p0)))
   (grd (decide (0 ≤ p1) && decide (p1 < ni (List.length p0))) (oget p0 (Int.toNat p1) fun x0 =>
    asAgg x0 fun l1 => unc l1 fun x2 l3 => asI .i64 x2 fun n4 => unc l3 fun x5 l6 => asI .i64 x5 fun n7 => unc l6 fun x8 l9 => asI .i64 x8 fun n10 => unc l9 fun x11 l12 => asS x11 fun s13 => unn l12 (ocall V 74 [(.agg [(.int .i64 n4), (.int .i64 n7), (.int .i64 n10), (.str s13)])] fun x14 l15 =>
              asAgg x14 fun l16 => unc l16 fun x17 l18 => asI .i64 x17 fun n19 => unc l18 fun x20 l21 => asI .i64 x20 fun n22 => unc l21 fun x23 l24 => asI .i64 x23 fun n25 => unc l24 fun x26 l27 => asS x26 fun s28 => unn l27 (unn l15 (grd (decide (0 ≤ p1) && decide (p1 < ni (List.length p2))) (oget p2 (Int.toNat p1) fun _ =>
                        nam (List.set p2 (Int.toNat p1) (D.agg [D.int IntKind.i64 n19, D.int IntKind.i64 n22, D.int IntKind.i64 n25, D.str s28])) fun l30 =>
                         Llaws_toInstrS_3 p0 (IntKind.wrap IntKind.i64 (p1 + 1)) l30))))))
   (some ((.os (4, 0) p2), [])) := by
  exact (Rn_eq _ _ _).trans (by kernel_rfl)
theorem espec_l2NameByte (a0_ : Int) : V 132 [.int .u8 a0_] =
  br (decide (a0_ ≥ 97))
   (br (decide (a0_ ≤ 122))
    (some ((.bool true), []))
    (br (a0_ == 43)
     (some ((.bool true), []))
     (br (a0_ == 45)
      (some ((.bool true), []))
      (br (a0_ == 42)
       (some ((.bool true), []))
       (br (a0_ == 60)
        (some ((.bool true), []))
        (br (a0_ == 61)
         (some ((.bool true), []))
         (br (a0_ == 63)
          (some ((.bool true), []))
          (br (a0_ == 33)
           (some ((.bool true), []))
           (some ((.bool (a0_ == 47)), []))))))))))
   (br (a0_ == 43)
    (some ((.bool true), []))
    (br (a0_ == 45)
     (some ((.bool true), []))
     (br (a0_ == 42)
      (some ((.bool true), []))
      (br (a0_ == 60)
       (some ((.bool true), []))
       (br (a0_ == 61)
        (some ((.bool true), []))
        (br (a0_ == 63)
         (some ((.bool true), []))
         (br (a0_ == 33)
          (some ((.bool true), []))
          (some ((.bool (a0_ == 47)), []))))))))) := by
  exact (Vn_eq Tryz.func132 rfl _).trans (by kernel_rfl)
theorem eimpl_GetText (a0_ : List D) (a1_ : Int) : V 127 [.rs (1, 0) a0_, .int .i64 a1_] =
  ocall V 76 [(.rs (1, 0) a0_), (.int .i64 a1_)] fun x0 l1 =>
   asTup x0 fun l2 => unc l2 fun x3 l4 => asI .i64 x3 fun n5 => unc l4 fun x6 l7 => asI .i64 x6 fun n8 => unc l7 fun x9 l10 => asB x9 fun b11 => unn l10 (unn l1 (br (!b11)
           (some ((.tup [(.str ({ data := #[] })), (.int .i64 (0)), (.bool false)]), []))
           (br (decide (n5 > IntKind.wrap IntKind.i64 (ni (List.length a0_) - n8)))
            (some ((.tup [(.str ({ data := #[] })), (.int .i64 (0)), (.bool false)]), []))
            (grd (cutOk (List.length a0_) (some n8) (some (IntKind.wrap IntKind.i64 (n8 + n5)))) (obytes (cutL (cutH a0_ (IntKind.wrap IntKind.i64 (n8 + n5))) n8) fun s12 => some ((.tup [(.str s12), (.int .i64 (IntKind.wrap IntKind.i64 (n8 + n5))), (.bool true)]), [])))))) := by
  exact (Vn_eq Tryz.func127 rfl _).trans (by kernel_rfl)
theorem Lspec_PoolOk_2_eq (p0 : Int) (p1 : List D) : Lspec_PoolOk_2 p0 p1 =
  br (decide (p0 < ni (List.length p1)))
   (grd (decide (0 ≤ p0) && decide (p0 < ni (List.length p1))) (oget p1 (Int.toNat p0) fun x0 =>
    asAgg x0 fun l1 => unc l1 fun x2 l3 => asI .i64 x2 fun n4 => unc l3 fun x5 l6 => asI .i64 x5 fun n7 => unc l6 fun x8 l9 => asS x8 fun s10 => unc l9 fun x11 l12 => asI .i64 x11 fun n13 => unc l12 fun x14 l15 => asI .i64 x14 fun n16 => unn l15 (ocall V 102 [(.agg [(.int .i64 n4), (.int .i64 n7), (.str s10), (.int .i64 n13), (.int .i64 n16)]), (.int .i64 p0)] fun x17 l18 =>
                asB x17 fun b19 => unn l18 (br (!b19)
                  (some ((.bool false), []))
                  (Lspec_PoolOk_2 (IntKind.wrap IntKind.i64 (p0 + 1)) p1)))))
   (some ((.bool (decide (ni (List.length p1) ≤ 3000))), [])) := by
  exact (Rn_eq _ _ _).trans (by kernel_rfl)
theorem elaws_eqCode (a0_0 : List D) (a0_1 : List D) (a0_2 : List D) (a1_0 : List D) (a1_1 : List D) (a1_2 : List D) : V 12 [.agg [.rs (5, 0) a0_0, .rs (4, 0) a0_1, .rs (3, 0) a0_2], .agg [.rs (5, 0) a1_0, .rs (4, 0) a1_1, .rs (3, 0) a1_2]] =
  ocall V 39 [(.agg [(.rs (5, 0) a0_0)]), (.agg [(.rs (5, 0) a1_0)])] fun x0 l1 =>
   asB x0 fun b2 => unn l1 (br (!b2)
     (some ((.bool false), []))
     (ocall V 40 [(.rs (4, 0) a0_1), (.rs (4, 0) a1_1)] fun x3 l4 =>
      asB x3 fun b5 => unn l4 (br (!b5)
        (some ((.bool false), []))
        (ocall V 41 [(.rs (3, 0) a0_2), (.rs (3, 0) a1_2)] fun x6 l7 =>
         asB x6 fun b8 => unn l7 (br (!b8)
           (some ((.bool false), []))
           (some ((.bool true), []))))))) := by
  exact (Vn_eq Tryz.func12 rfl _).trans (by kernel_rfl)
theorem Lspec_l7Keep_5_eq (p0 : List D) (p1 : Int) (p2 : List D) (p3 : List D) (p4 : List D) : Lspec_l7Keep_5 p0 p1 p2 p3 p4 =
  br (decide (p1 < ni (List.length p0)))
   (grd (decide (0 ≤ p1) && decide (p1 < ni (List.length p0))) (oget p0 (Int.toNat p1) fun x12 =>
    asI .i64 x12 fun n13 => grd (decide (0 ≤ n13) && decide (n13 < ni (List.length p2))) (oget p2 (Int.toNat n13) fun x14 =>
      asI .i64 x14 fun n15 => grd (decide (ni (List.length (p3 ++ [D.int IntKind.i64 n15])) ≤ LIM)) (nam (p3 ++ [D.int IntKind.i64 n15]) fun l16 =>
        Lspec_l7Keep_5 p0 (IntKind.wrap IntKind.i64 (p1 + 1)) p2 l16 p4))))
   (some ((.tup [(.agg [(.os (5, 0) p4)]), (.os (1, 0) p3)]), [])) := by
  exact (Rn_eq _ _ _).trans (by kernel_rfl)
theorem eimpl_Pool_add (p : List D) (k : Int) (n : Int) (s : ByteArray) (a : Int) (b : Int) : V 139 [.op [.os (5, 0) p], .agg [.int .i64 k, .int .i64 n, .str s, .int .i64 a, .int .i64 b]] =
  grd (decide (ni (List.length (p ++ [D.agg [D.int IntKind.i64 k, D.int IntKind.i64 n, D.str s, D.int IntKind.i64 a, D.int IntKind.i64 b]])) ≤ LIM)) (nam (p ++ [D.agg [D.int IntKind.i64 k, D.int IntKind.i64 n, D.str s, D.int IntKind.i64 a, D.int IntKind.i64 b]]) fun l0 =>
   some ((.int .i64 (IntKind.wrap IntKind.i64 (ni (List.length l0) - 1))), [(.op [(.os (5, 0) l0)])])) := by
  exact (Vn_eq Tryz.func139 rfl _).trans (by kernel_rfl)
theorem eimpl_reader_text (b : List D) (i : Int) (k : Bool)  : V 107 [.op [.os (1, 0) b, .int .i64 i, .bool k]] =
  ocall V 127 [(.rs (1, 0) b), (.int .i64 i)] fun x0 l1 =>
   asTup x0 fun l2 => unc l2 fun x3 l4 => asS x3 fun s5 => unc l4 fun x6 l7 => asI .i64 x6 fun n8 => unc l7 fun x9 l10 => asB x9 fun b11 => unn l10 (unn l1 (br (!b11)
           (some ((.str ({ data := #[] })), [(.op [(.os (1, 0) b), (.int .i64 i), (.bool false)])]))
           (some ((.str s5), [(.op [(.os (1, 0) b), (.int .i64 n8), (.bool k)])])))) := by
  exact (Vn_eq Tryz.func107 rfl _).trans (by kernel_rfl)
theorem Llaws_eqStringS_4_eq (p0 : List D) (p1 : List D) (p2 : Int) : Llaws_eqStringS_4 p0 p1 p2 =
  br (decide (p2 < ni (List.length p0)))
   (grd (decide (0 ≤ p2) && decide (p2 < ni (List.length p0))) (oget p0 (Int.toNat p2) fun x0 =>
    asS x0 fun s1 => grd (decide (0 ≤ p2) && decide (p2 < ni (List.length p1))) (oget p1 (Int.toNat p2) fun x2 =>
      asS x2 fun s3 => br (!strEq s1 s3)
        (some ((.bool false), []))
        (Llaws_eqStringS_4 p0 p1 (IntKind.wrap IntKind.i64 (p2 + 1))))))
   (some ((.bool true), [])) := by
  exact (Rn_eq _ _ _).trans (by kernel_rfl)
theorem elaws_heldMachine (a0_0 : List D) (a0_1 : Int) (a0_2 : Int) (a0_3 : Int) (a0_4 : Int) (a0_5 : Int) (a0_6 : Int) (a0_7 : Int) (a1_ : Int) : V 15 [.agg [.rs (5, 0) a0_0, .int .i64 a0_1, .int .i64 a0_2, .int .i64 a0_3, .int .i64 a0_4, .int .i64 a0_5, .int .i64 a0_6, .int .i64 a0_7], .int .i64 a1_] =
  ocall V 45 [(.agg [(.rs (5, 0) a0_0)]), (.int .i64 a1_)] fun x0 l1 =>
   asI .i64 x0 fun n2 => unn l1 (br (decide (n2 < 0))
     (some ((.int .i64 (-1)), []))
     (some ((.int .i64 n2), []))) := by
  exact (Vn_eq Tryz.func15 rfl _).trans (by kernel_rfl)
theorem eimpl_CodeOk (a0_0 : List D) (a0_1 : List D) (a0_2 : List D) : V 92 [.agg [.rs (5, 0) a0_0, .rs (4, 0) a0_1, .rs (3, 0) a0_2]] =
  ocall V 108 [(.agg [(.rs (5, 0) a0_0)])] fun x0 l1 =>
   asB x0 fun b2 => unn l1 (br (!b2)
     (some ((.bool false), []))
     (br (decide (ni (List.length a0_1) > 400))
      (some ((.bool false), []))
      (br (decide (ni (List.length a0_2) > 20))
       (some ((.bool false), []))
       (Limpl_CodeOk_4 (ni (List.length a0_1)) (0) a0_0 a0_1 a0_2)))) := by
  exact (Vn_eq Tryz.func92 rfl _).trans (by kernel_rfl)
theorem Lslices_Index_byte_byte_2_eq (p0 : List D) (p1 : Int) (p2 : Int) (p3 : Int) : Lslices_Index_byte_byte_2 p0 p1 p2 p3 =
  br (decide (p3 < p2))
   (grd (decide (0 ≤ p3) && decide (p3 < ni (List.length p0))) (oget p0 (Int.toNat p3) fun x0 =>
    asI .u8 x0 fun n1 => br (p1 == n1)
      (some ((.int .i64 p3), []))
      (Lslices_Index_byte_byte_2 p0 p1 p2 (IntKind.wrap IntKind.i64 (p3 + 1)))))
   (some ((.int .i64 (-1)), [])) := by
  exact (Rn_eq _ _ _).trans (by kernel_rfl)
theorem elaws_eqDef (a0_0 : ByteArray) (a0_1 : Int) (a0_2 : Int) (a1_0 : ByteArray) (a1_1 : Int) (a1_2 : Int) : V 83 [.agg [.str a0_0, .int .i64 a0_1, .int .i64 a0_2], .agg [.str a1_0, .int .i64 a1_1, .int .i64 a1_2]] =
  br (!strEq a0_0 a1_0)
   (some ((.bool false), []))
   (br (a0_1 != a1_1)
    (some ((.bool false), []))
    (br (a0_2 != a1_2)
     (some ((.bool false), []))
     (some ((.bool true), [])))) := by
  exact (Vn_eq Tryz.func83 rfl _).trans (by kernel_rfl)
theorem elaws_szDef (a0_0 : ByteArray) (a0_1 : Int) (a0_2 : Int) (a1_ : Int) : V 66 [.agg [.str a0_0, .int .i64 a0_1, .int .i64 a0_2], .int .i64 a1_] =
  br (decide (IntKind.wrap IntKind.i64 (a1_ - ni (ByteArray.size a0_0)) < 0))
   (some ((.int .i64 (-1)), []))
   (some ((.int .i64 (IntKind.wrap IntKind.i64 (a1_ - ni (ByteArray.size a0_0)))), [])) := by
  exact (Vn_eq Tryz.func66 rfl _).trans (by kernel_rfl)
theorem elaws_toNodeS (a0_ : List D) : V 73 [.rs (5, 0) a0_] =
  grd (decide (0 ≤ ni (List.length a0_)) && decide (ni (List.length a0_) ≤ LIM)) (Llaws_toNodeS_3 a0_ (0) (List.replicate (Int.toNat (ni (List.length a0_))) (D.agg [D.int IntKind.i64 (0), D.int IntKind.i64 (0), D.str { data := #[] }, D.int IntKind.i64 (0), D.int IntKind.i64 (0)]))) := by
  exact (Vn_eq Tryz.func73 rfl _).trans (by kernel_rfl)
theorem elaws_toNode (a0_0 : Int) (a0_1 : Int) (a0_2 : ByteArray) (a0_3 : Int) (a0_4 : Int) : V 106 [.agg [.int .i64 a0_0, .int .i64 a0_1, .str a0_2, .int .i64 a0_3, .int .i64 a0_4]] =
  some ((.agg [(.int .i64 a0_0), (.int .i64 a0_1), (.str a0_2), (.int .i64 a0_3), (.int .i64 a0_4)]), []) := by
  exact (Vn_eq Tryz.func106 rfl _).trans (by kernel_rfl)
theorem espec_l7Reach (a0_0 : List D) (a1_ : List D) : V 126 [.agg [.rs (5, 0) a0_0], .rs (1, 0) a1_] =
  grd (decide (0 ≤ ni (List.length a0_0)) && decide (ni (List.length a0_0) ≤ LIM)) (Lspec_l7Reach_3 a1_ (0) a0_0 (List.replicate (Int.toNat (ni (List.length a0_0))) (D.bool false))) := by
  exact (Vn_eq Tryz.func126 rfl _).trans (by kernel_rfl)
theorem elaws_szNodeS (a0_ : List D) (a1_ : Int) : V 64 [.rs (5, 0) a0_, .int .i64 a1_] =
  br (decide (IntKind.wrap IntKind.i64 (a1_ - ni (List.length a0_)) < 0))
   (some ((.int .i64 (-1)), []))
   (Llaws_szNodeS_5 a0_ (IntKind.wrap IntKind.i64 (a1_ - ni (List.length a0_))) (0)) := by
  exact (Vn_eq Tryz.func64 rfl _).trans (by kernel_rfl)
theorem elaws_eqPool (a0_0 : List D) (a1_0 : List D) : V 39 [.agg [.rs (5, 0) a0_0], .agg [.rs (5, 0) a1_0]] =
  ocall V 81 [(.rs (5, 0) a0_0), (.rs (5, 0) a1_0)] fun x0 l1 =>
   asB x0 fun b2 => unn l1 (br (!b2)
     (some ((.bool false), []))
     (some ((.bool true), []))) := by
  exact (Vn_eq Tryz.func39 rfl _).trans (by kernel_rfl)
theorem eimpl_packNodes (a0_0 : List D) : V 80 [.agg [.rs (5, 0) a0_0]] =
  ocall V 60 [(.int .i64 (ni (List.length a0_0)))] fun x0 l1 =>
   asOs (1, 0) x0 fun l2 => unn l1 (Limpl_packNodes_3 a0_0 (ni (List.length a0_0)) (0) l2) := by
  exact (Vn_eq Tryz.func80 rfl _).trans (by kernel_rfl)
theorem eimpl_within (a0_ : Int) (a1_ : Int) (a2_ : Int) : V 93 [.int .i64 a0_, .int .i64 a1_, .int .i64 a2_] =
  br (decide (a0_ ≥ a1_))
   (some ((.bool (decide (a0_ ≤ a2_))), []))
   (some ((.bool false), [])) := by
  exact (Vn_eq Tryz.func93 rfl _).trans (by kernel_rfl)
theorem eContainsFunc_ProcOk1 (l : List D) : V 94 [.rs (1, 0) l, .fn 95 []] =
  ocall V 121 [(.rs (1, 0) l), (.fn 95 [])] fun x0 l1 =>
   asI .i64 x0 fun n2 => unn l1 (some ((.bool (decide (n2 ≥ 0))), [])) := by
  exact (Vn_eq Tryz.func94 rfl _).trans (by kernel_rfl)
theorem espec_l2Copy (a0_0 : List D) : V 123 [.agg [.rs (5, 0) a0_0]] =
  grd (decide (ni (List.length ([] ++ a0_0)) ≤ LIM)) (nam ([] ++ a0_0) fun l0 =>
   some ((.agg [(.os (5, 0) l0)]), [])) := by
  exact (Vn_eq Tryz.func123 rfl _).trans (by kernel_rfl)
theorem eDefOf_1 (a : ByteArray) (b : Int) (c : Int) (s : ByteArray) : V 118 [.agg [.str a, .int .i64 b, .int .i64 c], .bp [.str s]] =
  some ((.bool (strEq a s)), []) := by
  exact (Vn_eq Tryz.func118 rfl _).trans (by kernel_rfl)
theorem espec_PutNum (a0_ : Int) : V 55 [.int .i64 a0_] =
  br (decide (a0_ < 0))
   (some ((.os (1, 0) []), []))
   (Lspec_PutNum_4 a0_ []) := by
  exact (Vn_eq Tryz.func55 rfl _).trans (by kernel_rfl)
theorem elaws_markStringS (a0_ : List D) (a1_ : Int) : V 51 [.os (1, 0) a0_, .int .i64 a1_] =
  Llaws_markStringS_2 a1_ (0) a0_ := by
  exact (Vn_eq Tryz.func51 rfl _).trans (by kernel_rfl)
theorem elaws_markInstrS (a0_ : List D) (a1_ : Int) : V 43 [.os (4, 0) a0_, .int .i64 a1_] =
  Llaws_markInstrS_2 a1_ (0) a0_ := by
  exact (Vn_eq Tryz.func43 rfl _).trans (by kernel_rfl)
end Go.Eng
