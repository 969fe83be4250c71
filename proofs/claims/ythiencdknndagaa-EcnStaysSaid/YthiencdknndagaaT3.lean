/-
  What functions of the program come to, way by way: printed by a program, held by the kernel.
-/
import Derived.Test.YthiencdknndagaaX6
namespace Go.Proofs.Ythiencdknndagaa
open Go.RowKit
set_option maxRecDepth 100000

theorem t3n (s a b c : Int) (f : Bool) (d : Int) (m : Bool) (x y z newly : Int) (kk : SV → Prop) : evalF C5 64 Try.f3 [cntS s a b c f, .agg [.int .i64 d, .nilSlice, .bool m, .int .i64 x, .int .i64 y, .int .i64 z], .int .i64 newly] [] (fun v _ => kk v) = (
    bif chkE s a b c == chkE s a b c then
      bif
          zi (mE s a b c) (s + (1 : Int)) == zi (mE s a b c) (s + (1 : Int)) &&
            (zi (mE s a b c) a == zi (mE s a b c) a &&
                (zi (mE s a b c) b == zi (mE s a b c) b && (zi (mE s a b c) c == zi (mE s a b c) c && true)) &&
              (zb (mE s a b c) f == zb (mE s a b c) f && true)) then
        bif mE s a b c == mE s a b c then
          bif
              zi (aE s a b c x y z newly) s == zi (aE s a b c x y z newly) s &&
                (zi (aE s a b c x y z newly) (pk (aSee f m s a b c x y z newly) x a) ==
                      zi (aE s a b c x y z newly) (pk (aSee f m s a b c x y z newly) x a) &&
                    (zi (aE s a b c x y z newly) (pk (aSee f m s a b c x y z newly) y b) ==
                        zi (aE s a b c x y z newly) (pk (aSee f m s a b c x y z newly) y b) &&
                      (zi (aE s a b c x y z newly) (pk (aSee f m s a b c x y z newly) z c) ==
                          zi (aE s a b c x y z newly) (pk (aSee f m s a b c x y z newly) z c) &&
                        true)) &&
                  (zb (aE s a b c x y z newly) (aFail f m s a b c x y z newly) ==
                      zb (aE s a b c x y z newly) (aFail f m s a b c x y z newly) &&
                    true)) then
            bif
                zb (aE s a b c x y z newly) (aSee f m s a b c x y z newly && decide (c < z)) ==
                  zb (aE s a b c x y z newly) (aSee f m s a b c x y z newly && decide (c < z)) then
              bif aE s a b c x y z newly == aE s a b c x y z newly then kk (SV.bool true) else kk (SV.bool false)
            else kk (SV.bool false)
          else kk (SV.bool false)
        else kk (SV.bool false)
      else kk (SV.bool false)
    else kk (SV.bool false)) := by kernel_rfl
theorem t6 (a b c x y newly : Int) (kk : SV → Prop) : evalF C6 64 Try.f6 [.agg [.int .i64 a, .int .i64 b, .int .i64 c], .agg [.int .i64 x, .int .i64 y], .int .i64 newly] [] (fun v _ => kk v) = (
    ∀ (r : Int),
      BrP a (1048576 : Int) r →
        ∀ (r_1 : Int),
          BrP b (1048576 : Int) r_1 →
            ∀ (r_2 : Int),
              BrP c (1048576 : Int) r_2 →
                bif
                    decide ((0 : Int) < IntKind.i64.wrap (r_2 + (1 : Int))) &&
                      decide (IntKind.i64.wrap (r_2 + (1 : Int)) ≤ (9223372036854775807 : Int)) then
                  ∀ (r_3 : Int),
                    BrP x (IntKind.i64.wrap (r_2 + (1 : Int))) r_3 →
                      bif
                          decide ((0 : Int) < IntKind.i64.wrap (IntKind.i64.wrap (r_2 - r_3) + (1 : Int))) &&
                            decide
                              (IntKind.i64.wrap (IntKind.i64.wrap (r_2 - r_3) + (1 : Int)) ≤
                                (9223372036854775807 : Int)) then
                        ∀ (r_4 : Int),
                          BrP y (IntKind.i64.wrap (IntKind.i64.wrap (r_2 - r_3) + (1 : Int))) r_4 →
                            bif
                                decide ((0 : Int) < IntKind.i64.wrap (IntKind.i64.wrap (r_3 + r_4) + (1 : Int))) &&
                                  decide
                                    (IntKind.i64.wrap (IntKind.i64.wrap (r_3 + r_4) + (1 : Int)) ≤
                                      (9223372036854775807 : Int)) then
                              ∀ (r_5 : Int),
                                BrP newly (IntKind.i64.wrap (IntKind.i64.wrap (r_3 + r_4) + (1 : Int))) r_5 →
                                  ∀ (s' a' b' c' : Int) (f' bo : Bool) (e : Int),
                                    AckP false true (IntKind.i64.wrap (IntKind.i64.wrap (r + r_1) + r_2)) r (0 : Int) r_1
                                        (IntKind.i64.wrap (r + r_3)) (0 : Int) (IntKind.i64.wrap (r_1 + r_4)) r_5 s' a' b'
                                        c' f' bo e →
                                      bif e != (0 : Int) then kk (SV.bool false)
                                      else
                                        bif bo != decide ((0 : Int) < r_4) then kk (SV.bool false)
                                        else
                                          bif
                                              !(s' == IntKind.i64.wrap (IntKind.i64.wrap (r + r_1) + r_2) &&
                                                  (a' == IntKind.i64.wrap (r + r_3) &&
                                                      (b' == (0 : Int) && (c' == IntKind.i64.wrap (r_1 + r_4) && true)) &&
                                                    (f' == false && true))) then
                                            kk (SV.bool false)
                                          else
                                            ∀ (s'_1 a'_1 b'_1 c'_1 : Int) (f'_1 bo : Bool) (e : Int),
                                              AckP f' false s' a' b' c' (1 : Int) (2 : Int) (3 : Int) (0 : Int) s'_1 a'_1
                                                  b'_1 c'_1 f'_1 bo e →
                                                bif e == (0 : Int) then
                                                  bif !bo then
                                                    bif
                                                        s'_1 == s' &&
                                                          (a'_1 == a' && (b'_1 == b' && (c'_1 == c' && true)) &&
                                                            (f'_1 == f' && true)) then
                                                      kk (SV.bool true)
                                                    else kk (SV.bool false)
                                                  else kk (SV.bool false)
                                                else kk (SV.bool false)
                            else False
                      else False
                else False) := by kernel_rfl
theorem t4 (a b kd by' : Int) (kk : SV → Prop) : evalF C6 64 Try.f4 [.agg [.int .i64 a, .int .i64 b], .int .i64 kd, .int .i64 by'] [] (fun v _ => kk v) = (
    ∀ (r : Int),
      BrP a (1048576 : Int) r →
        ∀ (r_1 : Int),
          BrP b (1048576 : Int) r_1 →
            ∀ (r_2 : Int),
              BrP by' (1048576 : Int) r_2 →
                ∀ (r_3 : Int),
                  BrP kd (6 : Int) r_3 →
                    bif r_3 == (0 : Int) then
                      bif r == (0 : Int) then kk (SV.bool true)
                      else
                        ∀ (s' a' b' c' : Int) (f' bo : Bool) (e : Int),
                          AckP false true (IntKind.i64.wrap (IntKind.i64.wrap (r + r_1) + (10 : Int))) r (0 : Int) r_1
                              (if IntKind.i64.wrap (r - IntKind.i64.wrap ((1 : Int) + r_2)) > (0 : Int) then
                                IntKind.i64.wrap (r - IntKind.i64.wrap ((1 : Int) + r_2))
                              else (0 : Int))
                              (0 : Int) (IntKind.i64.wrap (r_1 + IntKind.i64.wrap ((1 : Int) + r_2))) (0 : Int) s' a' b' c'
                              f' bo e →
                            bif e != (0 : Int) then kk (SV.bool false)
                            else
                              bif bo then kk (SV.bool false)
                              else
                                bif !f' then kk (SV.bool false)
                                else
                                  bif !(a' == r && (b' == (0 : Int) && (c' == r_1 && true))) then kk (SV.bool false)
                                  else
                                    bif s' != IntKind.i64.wrap (IntKind.i64.wrap (r + r_1) + (10 : Int)) then
                                      kk (SV.bool false)
                                    else
                                      ∀ (s'_1 a'_1 b'_1 c'_1 : Int) (f'_1 bo : Bool) (e : Int),
                                        AckP f' true s' a' b' c' (IntKind.i64.wrap (r + (1 : Int))) (0 : Int)
                                            (IntKind.i64.wrap (r_1 + (1 : Int))) (1 : Int) s'_1 a'_1 b'_1 c'_1 f'_1 bo e →
                                          bif e == (0 : Int) then
                                            bif !bo then
                                              bif
                                                  s'_1 == s' &&
                                                    (a'_1 == a' && (b'_1 == b' && (c'_1 == c' && true)) &&
                                                      (f'_1 == f' && true)) then
                                                kk (SV.bool true)
                                              else kk (SV.bool false)
                                            else kk (SV.bool false)
                                          else kk (SV.bool false)
                    else
                      bif r_3 == (1 : Int) then
                        bif r_1 == (0 : Int) then kk (SV.bool true)
                        else
                          ∀ (s' a' b' c' : Int) (f' bo : Bool) (e : Int),
                            AckP false true (IntKind.i64.wrap (IntKind.i64.wrap (r + r_1) + (10 : Int))) r (0 : Int) r_1 r
                                (0 : Int)
                                (if IntKind.i64.wrap (r_1 - IntKind.i64.wrap ((1 : Int) + r_2)) > (0 : Int) then
                                  IntKind.i64.wrap (r_1 - IntKind.i64.wrap ((1 : Int) + r_2))
                                else (0 : Int))
                                (0 : Int) s' a' b' c' f' bo e →
                              bif e != (0 : Int) then kk (SV.bool false)
                              else
                                bif bo then kk (SV.bool false)
                                else
                                  bif !f' then kk (SV.bool false)
                                  else
                                    bif !(a' == r && (b' == (0 : Int) && (c' == r_1 && true))) then kk (SV.bool false)
                                    else
                                      bif s' != IntKind.i64.wrap (IntKind.i64.wrap (r + r_1) + (10 : Int)) then
                                        kk (SV.bool false)
                                      else
                                        ∀ (s'_1 a'_1 b'_1 c'_1 : Int) (f'_1 bo : Bool) (e : Int),
                                          AckP f' true s' a' b' c' (IntKind.i64.wrap (r + (1 : Int))) (0 : Int)
                                              (IntKind.i64.wrap (r_1 + (1 : Int))) (1 : Int) s'_1 a'_1 b'_1 c'_1 f'_1 bo e →
                                            bif e == (0 : Int) then
                                              bif !bo then
                                                bif
                                                    s'_1 == s' &&
                                                      (a'_1 == a' && (b'_1 == b' && (c'_1 == c' && true)) &&
                                                        (f'_1 == f' && true)) then
                                                  kk (SV.bool true)
                                                else kk (SV.bool false)
                                              else kk (SV.bool false)
                                            else kk (SV.bool false)
                      else
                        bif r_3 == (2 : Int) then
                          ∀ (s' a' b' c' : Int) (f' bo : Bool) (e : Int),
                            AckP false true (IntKind.i64.wrap (IntKind.i64.wrap (r + r_1) + (10 : Int))) r (0 : Int) r_1 r
                                (IntKind.i64.wrap ((1 : Int) + r_2)) r_1 (0 : Int) s' a' b' c' f' bo e →
                              bif e != (0 : Int) then kk (SV.bool false)
                              else
                                bif bo then kk (SV.bool false)
                                else
                                  bif !f' then kk (SV.bool false)
                                  else
                                    bif !(a' == r && (b' == (0 : Int) && (c' == r_1 && true))) then kk (SV.bool false)
                                    else
                                      bif s' != IntKind.i64.wrap (IntKind.i64.wrap (r + r_1) + (10 : Int)) then
                                        kk (SV.bool false)
                                      else
                                        ∀ (s'_1 a'_1 b'_1 c'_1 : Int) (f'_1 bo : Bool) (e : Int),
                                          AckP f' true s' a' b' c' (IntKind.i64.wrap (r + (1 : Int))) (0 : Int)
                                              (IntKind.i64.wrap (r_1 + (1 : Int))) (1 : Int) s'_1 a'_1 b'_1 c'_1 f'_1 bo e →
                                            bif e == (0 : Int) then
                                              bif !bo then
                                                bif
                                                    s'_1 == s' &&
                                                      (a'_1 == a' && (b'_1 == b' && (c'_1 == c' && true)) &&
                                                        (f'_1 == f' && true)) then
                                                  kk (SV.bool true)
                                                else kk (SV.bool false)
                                              else kk (SV.bool false)
                                            else kk (SV.bool false)
                        else
                          bif r_3 == (3 : Int) then
                            ∀ (s' a' b' c' : Int) (f' bo : Bool) (e : Int),
                              AckP false true (IntKind.i64.wrap (IntKind.i64.wrap (r + r_1) + (10 : Int))) r (0 : Int) r_1
                                  (IntKind.i64.wrap
                                    (IntKind.i64.wrap (r + (10 : Int)) + IntKind.i64.wrap ((1 : Int) + r_2)))
                                  (0 : Int) r_1 (0 : Int) s' a' b' c' f' bo e →
                                bif e != (0 : Int) then kk (SV.bool false)
                                else
                                  bif bo then kk (SV.bool false)
                                  else
                                    bif !f' then kk (SV.bool false)
                                    else
                                      bif !(a' == r && (b' == (0 : Int) && (c' == r_1 && true))) then kk (SV.bool false)
                                      else
                                        bif s' != IntKind.i64.wrap (IntKind.i64.wrap (r + r_1) + (10 : Int)) then
                                          kk (SV.bool false)
                                        else
                                          ∀ (s'_1 a'_1 b'_1 c'_1 : Int) (f'_1 bo : Bool) (e : Int),
                                            AckP f' true s' a' b' c' (IntKind.i64.wrap (r + (1 : Int))) (0 : Int)
                                                (IntKind.i64.wrap (r_1 + (1 : Int))) (1 : Int) s'_1 a'_1 b'_1 c'_1 f'_1 bo
                                                e →
                                              bif e == (0 : Int) then
                                                bif !bo then
                                                  bif
                                                      s'_1 == s' &&
                                                        (a'_1 == a' && (b'_1 == b' && (c'_1 == c' && true)) &&
                                                          (f'_1 == f' && true)) then
                                                    kk (SV.bool true)
                                                  else kk (SV.bool false)
                                                else kk (SV.bool false)
                                              else kk (SV.bool false)
                          else
                            bif r_3 == (4 : Int) then
                              ∀ (s' a' b' c' : Int) (f' bo : Bool) (e : Int),
                                AckP false true (IntKind.i64.wrap (IntKind.i64.wrap (r + r_1) + (10 : Int))) r (0 : Int) r_1
                                    (IntKind.i64.wrap
                                      (r +
                                        if (10 : Int) < IntKind.i64.wrap ((1 : Int) + r_2) then (10 : Int)
                                        else IntKind.i64.wrap ((1 : Int) + r_2)))
                                    (0 : Int) r_1
                                    (IntKind.i64.wrap
                                      ((if (10 : Int) < IntKind.i64.wrap ((1 : Int) + r_2) then (10 : Int)
                                        else IntKind.i64.wrap ((1 : Int) + r_2)) +
                                        (1 : Int)))
                                    s' a' b' c' f' bo e →
                                  bif e != (0 : Int) then kk (SV.bool false)
                                  else
                                    bif bo then kk (SV.bool false)
                                    else
                                      bif !f' then kk (SV.bool false)
                                      else
                                        bif !(a' == r && (b' == (0 : Int) && (c' == r_1 && true))) then kk (SV.bool false)
                                        else
                                          bif s' != IntKind.i64.wrap (IntKind.i64.wrap (r + r_1) + (10 : Int)) then
                                            kk (SV.bool false)
                                          else
                                            ∀ (s'_1 a'_1 b'_1 c'_1 : Int) (f'_1 bo : Bool) (e : Int),
                                              AckP f' true s' a' b' c' (IntKind.i64.wrap (r + (1 : Int))) (0 : Int)
                                                  (IntKind.i64.wrap (r_1 + (1 : Int))) (1 : Int) s'_1 a'_1 b'_1 c'_1 f'_1 bo
                                                  e →
                                                bif e == (0 : Int) then
                                                  bif !bo then
                                                    bif
                                                        s'_1 == s' &&
                                                          (a'_1 == a' && (b'_1 == b' && (c'_1 == c' && true)) &&
                                                            (f'_1 == f' && true)) then
                                                      kk (SV.bool true)
                                                    else kk (SV.bool false)
                                                  else kk (SV.bool false)
                                                else kk (SV.bool false)
                            else
                              ∀ (s' a' b' c' : Int) (f' bo : Bool) (e : Int),
                                AckP false false (IntKind.i64.wrap (IntKind.i64.wrap (r + r_1) + (10 : Int))) r (0 : Int)
                                    r_1 (0 : Int) (0 : Int) (0 : Int) (IntKind.i64.wrap ((1 : Int) + r_2)) s' a' b' c' f' bo
                                    e →
                                  bif e != (0 : Int) then kk (SV.bool false)
                                  else
                                    bif bo then kk (SV.bool false)
                                    else
                                      bif !f' then kk (SV.bool false)
                                      else
                                        bif !(a' == r && (b' == (0 : Int) && (c' == r_1 && true))) then kk (SV.bool false)
                                        else
                                          bif s' != IntKind.i64.wrap (IntKind.i64.wrap (r + r_1) + (10 : Int)) then
                                            kk (SV.bool false)
                                          else
                                            ∀ (s'_1 a'_1 b'_1 c'_1 : Int) (f'_1 bo : Bool) (e : Int),
                                              AckP f' true s' a' b' c' (IntKind.i64.wrap (r + (1 : Int))) (0 : Int)
                                                  (IntKind.i64.wrap (r_1 + (1 : Int))) (1 : Int) s'_1 a'_1 b'_1 c'_1 f'_1 bo
                                                  e →
                                                bif e == (0 : Int) then
                                                  bif !bo then
                                                    bif
                                                        s'_1 == s' &&
                                                          (a'_1 == a' && (b'_1 == b' && (c'_1 == c' && true)) &&
                                                            (f'_1 == f' && true)) then
                                                      kk (SV.bool true)
                                                    else kk (SV.bool false)
                                                  else kk (SV.bool false)
                                                else kk (SV.bool false)) := by kernel_rfl
end Go.Proofs.Ythiencdknndagaa
