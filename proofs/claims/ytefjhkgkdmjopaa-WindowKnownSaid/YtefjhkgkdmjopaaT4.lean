/-
  What functions of the program come to, way by way: printed by a program, held by the kernel.
-/
import Derived.Test.YtefjhkgkdmjopaaX4
namespace Go.Proofs.Ytefjhkgkdmjopaa
open Go.RowKit
set_option maxRecDepth 100000

theorem t27 (w : Wn) (x y : Int) (kk : SV → Prop) : evalF C6 64 Try.f27 [.agg (wC w), .int .i64 x, .int .i64 y] [] (fun v _ => kk v) = (
    ∀ (r' : Wn) (e : Int),
      r' = chW (Wn.mk w.d w.m w.c w.t w.s w.g) (isT x && isT y) (bad1 (Wn.mk w.d w.m w.c w.t w.s w.g) x y) →
        e = chE (Wn.mk w.d w.m w.c w.t w.s w.g) (isT x && isT y) →
          bif e != (0 : Int) then
            kk
              (SV.agg
                [SV.int IntKind.i64 (0 : Int), SV.int IntKind.i64 (0 : Int), SV.int IntKind.i64 (0 : Int),
                  SV.int IntKind.i64 (0 : Int), SV.int IntKind.i64 (0 : Int), SV.int IntKind.i64 (0 : Int)])
          else
            kk
              (SV.agg
                [SV.int IntKind.i64 r'.d, SV.int IntKind.i64 r'.m, SV.int IntKind.i64 r'.c, SV.int IntKind.i64 r'.t,
                  SV.int IntKind.i64 r'.s, SV.int IntKind.i64 r'.g])) := by kernel_rfl
theorem t28 (w : Wn) (x y : Int) (kk : SV → Prop) : evalF C6 64 Try.f28 [.agg (wC w), .int .i64 x, .int .i64 y] [] (fun v _ => kk v) = (
    ∀ (r' : Wn) (e : Int),
      r' =
          chW (Wn.mk w.d w.m w.c w.t w.s w.g)
            (ackOk (Pk.mk (0 : Int) x y false false false).t (Pk.mk (0 : Int) x y false false false).s)
            (ack1 (Wn.mk w.d w.m w.c w.t w.s w.g) (Pk.mk (0 : Int) x y false false false).t
              (Pk.mk (0 : Int) x y false false false).s true) →
        e = chE (Wn.mk w.d w.m w.c w.t w.s w.g) (ackOk x y) →
          bif e != (0 : Int) then
            kk
              (SV.agg
                [SV.int IntKind.i64 (0 : Int), SV.int IntKind.i64 (0 : Int), SV.int IntKind.i64 (0 : Int),
                  SV.int IntKind.i64 (0 : Int), SV.int IntKind.i64 (0 : Int), SV.int IntKind.i64 (0 : Int)])
          else
            kk
              (SV.agg
                [SV.int IntKind.i64 r'.d, SV.int IntKind.i64 r'.m, SV.int IntKind.i64 r'.c, SV.int IntKind.i64 r'.t,
                  SV.int IntKind.i64 r'.s, SV.int IntKind.i64 r'.g])) := by kernel_rfl
theorem t25 (x y z : Int) (kk : SV → Prop) : evalF C6 64 Try.f25 [.agg [.int .i64 x, .int .i64 y, .int .i64 z]] [] (fun v _ => kk v) = (
    bif
        decide
            ((0 : Int) <
              IntKind.i64.wrap
                (IntKind.i64.wrap
                    ((1099511627776 : Int) -
                      IntKind.i64.wrap ((2 : Int) * IntKind.i64.wrap ((1200 : Int) + x % (64328 : Int)))) +
                  (1 : Int))) &&
          decide
            (IntKind.i64.wrap
                (IntKind.i64.wrap
                    ((1099511627776 : Int) -
                      IntKind.i64.wrap ((2 : Int) * IntKind.i64.wrap ((1200 : Int) + x % (64328 : Int)))) +
                  (1 : Int)) ≤
              (9223372036854775807 : Int)) then
      bif
          decide
              ((0 : Int) <
                IntKind.i64.wrap
                  (IntKind.i64.wrap
                      (IntKind.i64.wrap
                          (IntKind.i64.wrap ((2 : Int) * IntKind.i64.wrap ((1200 : Int) + x % (64328 : Int))) +
                            z %
                              IntKind.i64.wrap
                                (IntKind.i64.wrap
                                    ((1099511627776 : Int) -
                                      IntKind.i64.wrap ((2 : Int) * IntKind.i64.wrap ((1200 : Int) + x % (64328 : Int)))) +
                                  (1 : Int))) -
                        IntKind.i64.wrap ((2 : Int) * IntKind.i64.wrap ((1200 : Int) + x % (64328 : Int)))) +
                    (1 : Int))) &&
            decide
              (IntKind.i64.wrap
                  (IntKind.i64.wrap
                      (IntKind.i64.wrap
                          (IntKind.i64.wrap ((2 : Int) * IntKind.i64.wrap ((1200 : Int) + x % (64328 : Int))) +
                            z %
                              IntKind.i64.wrap
                                (IntKind.i64.wrap
                                    ((1099511627776 : Int) -
                                      IntKind.i64.wrap ((2 : Int) * IntKind.i64.wrap ((1200 : Int) + x % (64328 : Int)))) +
                                  (1 : Int))) -
                        IntKind.i64.wrap ((2 : Int) * IntKind.i64.wrap ((1200 : Int) + x % (64328 : Int)))) +
                    (1 : Int)) ≤
                (9223372036854775807 : Int)) then
        ∀ (r' : Wn) (e : Int),
          r' =
              chW
                (newW (IntKind.i64.wrap ((1200 : Int) + x % (64328 : Int)))
                  (IntKind.i64.wrap
                    (IntKind.i64.wrap ((2 : Int) * IntKind.i64.wrap ((1200 : Int) + x % (64328 : Int))) +
                      y %
                        IntKind.i64.wrap
                          (IntKind.i64.wrap
                              (IntKind.i64.wrap
                                  (IntKind.i64.wrap ((2 : Int) * IntKind.i64.wrap ((1200 : Int) + x % (64328 : Int))) +
                                    z %
                                      IntKind.i64.wrap
                                        (IntKind.i64.wrap
                                            ((1099511627776 : Int) -
                                              IntKind.i64.wrap
                                                ((2 : Int) * IntKind.i64.wrap ((1200 : Int) + x % (64328 : Int)))) +
                                          (1 : Int))) -
                                IntKind.i64.wrap ((2 : Int) * IntKind.i64.wrap ((1200 : Int) + x % (64328 : Int)))) +
                            (1 : Int))))
                  (IntKind.i64.wrap
                    (IntKind.i64.wrap ((2 : Int) * IntKind.i64.wrap ((1200 : Int) + x % (64328 : Int))) +
                      z %
                        IntKind.i64.wrap
                          (IntKind.i64.wrap
                              ((1099511627776 : Int) -
                                IntKind.i64.wrap ((2 : Int) * IntKind.i64.wrap ((1200 : Int) + x % (64328 : Int)))) +
                            (1 : Int)))))
                true
                (newW (IntKind.i64.wrap ((1200 : Int) + x % (64328 : Int)))
                  (IntKind.i64.wrap
                    (IntKind.i64.wrap ((2 : Int) * IntKind.i64.wrap ((1200 : Int) + x % (64328 : Int))) +
                      y %
                        IntKind.i64.wrap
                          (IntKind.i64.wrap
                              (IntKind.i64.wrap
                                  (IntKind.i64.wrap ((2 : Int) * IntKind.i64.wrap ((1200 : Int) + x % (64328 : Int))) +
                                    z %
                                      IntKind.i64.wrap
                                        (IntKind.i64.wrap
                                            ((1099511627776 : Int) -
                                              IntKind.i64.wrap
                                                ((2 : Int) * IntKind.i64.wrap ((1200 : Int) + x % (64328 : Int)))) +
                                          (1 : Int))) -
                                IntKind.i64.wrap ((2 : Int) * IntKind.i64.wrap ((1200 : Int) + x % (64328 : Int)))) +
                            (1 : Int))))
                  (IntKind.i64.wrap
                    (IntKind.i64.wrap ((2 : Int) * IntKind.i64.wrap ((1200 : Int) + x % (64328 : Int))) +
                      z %
                        IntKind.i64.wrap
                          (IntKind.i64.wrap
                              ((1099511627776 : Int) -
                                IntKind.i64.wrap ((2 : Int) * IntKind.i64.wrap ((1200 : Int) + x % (64328 : Int)))) +
                            (1 : Int))))) →
            e =
                chE
                  (newW (IntKind.i64.wrap ((1200 : Int) + x % (64328 : Int)))
                    (IntKind.i64.wrap
                      (IntKind.i64.wrap ((2 : Int) * IntKind.i64.wrap ((1200 : Int) + x % (64328 : Int))) +
                        y %
                          IntKind.i64.wrap
                            (IntKind.i64.wrap
                                (IntKind.i64.wrap
                                    (IntKind.i64.wrap ((2 : Int) * IntKind.i64.wrap ((1200 : Int) + x % (64328 : Int))) +
                                      z %
                                        IntKind.i64.wrap
                                          (IntKind.i64.wrap
                                              ((1099511627776 : Int) -
                                                IntKind.i64.wrap
                                                  ((2 : Int) * IntKind.i64.wrap ((1200 : Int) + x % (64328 : Int)))) +
                                            (1 : Int))) -
                                  IntKind.i64.wrap ((2 : Int) * IntKind.i64.wrap ((1200 : Int) + x % (64328 : Int)))) +
                              (1 : Int))))
                    (IntKind.i64.wrap
                      (IntKind.i64.wrap ((2 : Int) * IntKind.i64.wrap ((1200 : Int) + x % (64328 : Int))) +
                        z %
                          IntKind.i64.wrap
                            (IntKind.i64.wrap
                                ((1099511627776 : Int) -
                                  IntKind.i64.wrap ((2 : Int) * IntKind.i64.wrap ((1200 : Int) + x % (64328 : Int)))) +
                              (1 : Int)))))
                  true →
              bif e != (0 : Int) then
                kk
                  (SV.agg
                    [SV.int IntKind.i64 (0 : Int), SV.int IntKind.i64 (0 : Int), SV.int IntKind.i64 (0 : Int),
                      SV.int IntKind.i64 (0 : Int), SV.int IntKind.i64 (0 : Int), SV.int IntKind.i64 (0 : Int)])
              else
                kk
                  (SV.agg
                    [SV.int IntKind.i64 r'.d, SV.int IntKind.i64 r'.m, SV.int IntKind.i64 r'.c, SV.int IntKind.i64 r'.t,
                      SV.int IntKind.i64 r'.s, SV.int IntKind.i64 r'.g])
      else False
    else False) := by kernel_rfl
theorem t26 (w : Wn) (x : Th) (kk : SV → Prop) : evalF C6 64 Try.f26 [.agg (wC w), .agg (tC x)] [] (fun v _ => kk v) = (
    bif x.k % (8 : Int) == (5 : Int) then
      ∀ (r' : Wn) (e : Int),
        r' =
            chW (Wn.mk w.d w.m w.c w.t w.s w.g)
              (isT (x.t % (9007199254740992 : Int)) && isT (x.n % (9007199254740992 : Int)))
              (bad1 (Wn.mk w.d w.m w.c w.t w.s w.g) (x.t % (9007199254740992 : Int)) (x.n % (9007199254740992 : Int))) →
          e =
              chE (Wn.mk w.d w.m w.c w.t w.s w.g)
                (isT (x.t % (9007199254740992 : Int)) && isT (x.n % (9007199254740992 : Int))) →
            kk
              (SV.tuple
                [SV.agg
                    [SV.int IntKind.i64 r'.d, SV.int IntKind.i64 r'.m, SV.int IntKind.i64 r'.c, SV.int IntKind.i64 r'.t,
                      SV.int IntKind.i64 r'.s, SV.int IntKind.i64 r'.g],
                  SV.bool (e == (0 : Int))])
    else
      bif x.k % (8 : Int) == (6 : Int) then
        ∀ (r' : Wn) (e : Int),
          r' =
              chW (Wn.mk w.d w.m w.c w.t w.s w.g)
                (isT (x.t % (9007199254740992 : Int)) && isT (x.n % (9007199254740992 : Int)))
                (bad1 (Wn.mk w.d w.m w.c w.t w.s w.g) (x.t % (9007199254740992 : Int)) (x.n % (9007199254740992 : Int))) →
            e =
                chE (Wn.mk w.d w.m w.c w.t w.s w.g)
                  (isT (x.t % (9007199254740992 : Int)) && isT (x.n % (9007199254740992 : Int))) →
              kk
                (SV.tuple
                  [SV.agg
                      [SV.int IntKind.i64 r'.d, SV.int IntKind.i64 r'.m, SV.int IntKind.i64 r'.c, SV.int IntKind.i64 r'.t,
                        SV.int IntKind.i64 r'.s, SV.int IntKind.i64 r'.g],
                    SV.bool (e == (0 : Int))])
      else
        bif x.k % (8 : Int) == (7 : Int) then
          ∀ (r' : Wn) (e : Int),
            r' = chW (Wn.mk w.d w.m w.c w.t w.s w.g) true (col1 (Wn.mk w.d w.m w.c w.t w.s w.g)) →
              e = chE (Wn.mk w.d w.m w.c w.t w.s w.g) true →
                kk
                  (SV.tuple
                    [SV.agg
                        [SV.int IntKind.i64 r'.d, SV.int IntKind.i64 r'.m, SV.int IntKind.i64 r'.c, SV.int IntKind.i64 r'.t,
                          SV.int IntKind.i64 r'.s, SV.int IntKind.i64 r'.g],
                      SV.bool (e == (0 : Int))])
        else
          ∀ (r' : Wn) (e : Int),
            r' =
                chW (Wn.mk w.d w.m w.c w.t w.s w.g)
                  (ackOk
                    (Pk.mk (0 : Int) (x.t % (9007199254740992 : Int)) (IntKind.i64.wrap ((1 : Int) + x.s % (65535 : Int)))
                        false false false).t
                    (Pk.mk (0 : Int) (x.t % (9007199254740992 : Int)) (IntKind.i64.wrap ((1 : Int) + x.s % (65535 : Int)))
                        false false false).s)
                  (ack1 (Wn.mk w.d w.m w.c w.t w.s w.g)
                    (Pk.mk (0 : Int) (x.t % (9007199254740992 : Int)) (IntKind.i64.wrap ((1 : Int) + x.s % (65535 : Int)))
                        false false false).t
                    (Pk.mk (0 : Int) (x.t % (9007199254740992 : Int)) (IntKind.i64.wrap ((1 : Int) + x.s % (65535 : Int)))
                        false false false).s
                    x.f) →
              e =
                  chE (Wn.mk w.d w.m w.c w.t w.s w.g)
                    (ackOk (x.t % (9007199254740992 : Int)) (IntKind.i64.wrap ((1 : Int) + x.s % (65535 : Int)))) →
                kk
                  (SV.tuple
                    [SV.agg
                        [SV.int IntKind.i64 r'.d, SV.int IntKind.i64 r'.m, SV.int IntKind.i64 r'.c, SV.int IntKind.i64 r'.t,
                          SV.int IntKind.i64 r'.s, SV.int IntKind.i64 r'.g],
                      SV.bool (e == (0 : Int))])) := by kernel_rfl
theorem t42 (w : Wn) (a b x y : Int) (kk : SV → Prop) : evalC C0 64  1 (bodF Try.f42) (enterS 40 [.agg (wC w), .int .i64 a, .int .i64 b, .slice 0 0 1 2]) [some (b2I x y)] ( endK Try.prog Try.f42.results.toList (fun v _ => kk v)) = (
    bif w.c == a then
      bif w.t == b then
        bif w.s == bif true then x else y then kk (SV.bool (w.g == bif false then x else y)) else kk (SV.bool false)
      else kk (SV.bool false)
    else kk (SV.bool false)) := by kernel_rfl
theorem t24  (kk : SV → Prop) : evalF C7 64 Try.f24 [] [] (fun v _ => kk v) = (
    kk (SV.bool true)) := by kernel_rfl
theorem t3 (w : Wn) (p : Pk) (x y z : Int) (kk : SV → Prop) : evalF C8 64 Try.f3 [.agg (wC w), .agg (pC p), .agg [.int .i64 x, .int .i64 y, .int .i64 z]] [] (fun v _ => kk v) = (
    ∀ (r' : Wn) (e : Int),
      r' =
          chW (Wn.mk w.d w.m w.c w.t w.s w.g) (ackOk (Pk.mk p.n p.t p.s p.a p.b p.c).t (Pk.mk p.n p.t p.s p.a p.b p.c).s)
            (ack1 (Wn.mk w.d w.m w.c w.t w.s w.g) (Pk.mk p.n p.t p.s p.a p.b p.c).t (Pk.mk p.n p.t p.s p.a p.b p.c).s
              (z % (2 : Int) == (1 : Int))) →
        e = chE (Wn.mk w.d w.m w.c w.t w.s w.g) (ackOk p.t p.s) →
          ∀ (r'_1 : Wn) (e_1 : Int),
            r'_1 =
                chW (Wn.mk w.d w.m w.c w.t w.s w.g)
                  (ackOk (Pk.mk p.n p.t p.s p.a p.b p.c).t (Pk.mk p.n p.t p.s p.a p.b p.c).s)
                  (ack1 (Wn.mk w.d w.m w.c w.t w.s w.g) (Pk.mk p.n p.t p.s p.a p.b p.c).t (Pk.mk p.n p.t p.s p.a p.b p.c).s
                    (z % (2 : Int) == (1 : Int))) →
              e_1 = chE (Wn.mk w.d w.m w.c w.t w.s w.g) (ackOk p.t p.s) →
                ∀ (r'_2 : Wn) (e_2 : Int),
                  r'_2 = chW (Wn.mk w.d w.m w.c w.t w.s w.g) (isT x && isT y) (bad1 (Wn.mk w.d w.m w.c w.t w.s w.g) x y) →
                    e_2 = chE (Wn.mk w.d w.m w.c w.t w.s w.g) (isT x && isT y) →
                      ∀ (r'_3 : Wn) (e_3 : Int),
                        r'_3 =
                            chW (Wn.mk w.d w.m w.c w.t w.s w.g) (isT x && isT y)
                              (bad1 (Wn.mk w.d w.m w.c w.t w.s w.g) x y) →
                          e_3 = chE (Wn.mk w.d w.m w.c w.t w.s w.g) (isT x && isT y) →
                            bif
                                !(r'.d == r'_1.d &&
                                    (r'.m == r'_1.m &&
                                      (r'.c == r'_1.c &&
                                        (r'.t == r'_1.t && (r'.s == r'_1.s && (r'.g == r'_1.g && true)))))) then
                              kk (SV.bool false)
                            else
                              bif e != e_1 then kk (SV.bool false)
                              else
                                bif
                                    !(r'_2.d == r'_3.d &&
                                        (r'_2.m == r'_3.m &&
                                          (r'_2.c == r'_3.c &&
                                            (r'_2.t == r'_3.t && (r'_2.s == r'_3.s && (r'_2.g == r'_3.g && true)))))) then
                                  kk (SV.bool false)
                                else
                                  bif e_2 != e_3 then kk (SV.bool false)
                                  else
                                    ∀ (r' : Wn) (e : Int),
                                      r' = chW (Wn.mk w.d w.m w.c w.t w.s w.g) true (col1 (Wn.mk w.d w.m w.c w.t w.s w.g)) →
                                        e = chE (Wn.mk w.d w.m w.c w.t w.s w.g) true →
                                          ∀ (r'_4 : Wn) (e_4 : Int),
                                            r'_4 =
                                                chW (Wn.mk w.d w.m w.c w.t w.s w.g) true
                                                  (col1 (Wn.mk w.d w.m w.c w.t w.s w.g)) →
                                              e_4 = chE (Wn.mk w.d w.m w.c w.t w.s w.g) true →
                                                ∀ (r'_5 : Wn) (e_5 : Int),
                                                  r'_5 = chW (newW x y z) true (newW x y z) →
                                                    e_5 = chE (newW x y z) true →
                                                      ∀ (r'_6 : Wn) (e_6 : Int),
                                                        r'_6 = chW (newW x y z) true (newW x y z) →
                                                          e_6 = chE (newW x y z) true →
                                                            bif
                                                                r'.d == r'_4.d &&
                                                                  (r'.m == r'_4.m &&
                                                                    (r'.c == r'_4.c &&
                                                                      (r'.t == r'_4.t &&
                                                                        (r'.s == r'_4.s && (r'.g == r'_4.g && true))))) then
                                                              bif e == e_4 then
                                                                bif
                                                                    r'_5.d == r'_6.d &&
                                                                      (r'_5.m == r'_6.m &&
                                                                        (r'_5.c == r'_6.c &&
                                                                          (r'_5.t == r'_6.t &&
                                                                            (r'_5.s == r'_6.s &&
                                                                              (r'_5.g == r'_6.g && true))))) then
                                                                  bif e_5 == e_6 then
                                                                    bif
                                                                        (bif mayW (Wn.mk w.d w.m w.c w.t w.s w.g) then
                                                                            (0 : Int)
                                                                          else (2 : Int)) ==
                                                                          bif mayW (Wn.mk w.d w.m w.c w.t w.s w.g) then
                                                                            (0 : Int)
                                                                          else (2 : Int) then
                                                                      bif
                                                                          (mayW (Wn.mk w.d w.m w.c w.t w.s w.g) &&
                                                                              slowV (Wn.mk w.d w.m w.c w.t w.s w.g)) ==
                                                                            (mayW (Wn.mk w.d w.m w.c w.t w.s w.g) &&
                                                                              slowV (Wn.mk w.d w.m w.c w.t w.s w.g)) then
                                                                        kk (SV.bool true)
                                                                      else kk (SV.bool false)
                                                                    else kk (SV.bool false)
                                                                  else kk (SV.bool false)
                                                                else kk (SV.bool false)
                                                              else kk (SV.bool false)
                                                            else kk (SV.bool false)) := by kernel_rfl
end Go.Proofs.Ytefjhkgkdmjopaa
