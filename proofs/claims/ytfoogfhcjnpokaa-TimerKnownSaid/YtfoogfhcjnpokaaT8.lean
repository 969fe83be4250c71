/-
  What functions of the program come to, way by way: printed by a program, held by the kernel.
-/
import Derived.Test.YtfoogfhcjnpokaaX8
namespace Go.Proofs.Ytfoogfhcjnpokaa
open Go.RowKit
set_option maxRecDepth 100000

theorem p9a (x0 x1 x2 : Rw) (b w : Int) (Kt : KT) : evalC C8 0  0 (.seq c9_0 (.seq c9_1 .skip)) (enterS 70 [.agg (rw3 x0 x1 x2), .int .i64 b, .int .i64 w]) [] ( obsN L9 M9 Kt) = (
    Kt Ex.normal (70 : Nat)
      [SV.ptr (0 : Nat) (0 : Nat) (12 : Nat) (0 : Nat), SV.ptr (1 : Nat) (0 : Nat) (16 : Nat) (0 : Nat),
        SV.ptr (2 : Nat) (0 : Nat) (16 : Nat) (0 : Nat), SV.top]
      [BO.rows (12 : Nat) (1 : Nat) true (30 : Nat)
          [[SV.int IntKind.i64 x0.b, SV.int IntKind.i64 x0.l, SV.int IntKind.i64 x0.a, SV.int IntKind.i64 x0.m,
              SV.int IntKind.i64 x1.b, SV.int IntKind.i64 x1.l, SV.int IntKind.i64 x1.a, SV.int IntKind.i64 x1.m,
              SV.int IntKind.i64 x2.b, SV.int IntKind.i64 x2.l, SV.int IntKind.i64 x2.a, SV.int IntKind.i64 x2.m]],
        BO.rows (16 : Nat) (1 : Nat) true (28 : Nat)
          [[SV.bool false, SV.int IntKind.i64 (0 : Int), SV.int IntKind.i64 (0 : Int), SV.int IntKind.i64 (0 : Int),
              SV.bool false, SV.int IntKind.i64 (0 : Int), SV.int IntKind.i64 (0 : Int), SV.int IntKind.i64 (0 : Int),
              SV.bool false, SV.int IntKind.i64 (0 : Int), SV.int IntKind.i64 (0 : Int), SV.int IntKind.i64 (0 : Int),
              SV.bool false, SV.bool false, SV.bool false, SV.int IntKind.i64 (0 : Int)]],
        BO.rows (16 : Nat) (1 : Nat) true (28 : Nat)
          [[SV.bool false, SV.int IntKind.i64 (0 : Int), SV.int IntKind.i64 (0 : Int), SV.int IntKind.i64 (0 : Int),
              SV.bool false, SV.int IntKind.i64 (0 : Int), SV.int IntKind.i64 (0 : Int), SV.int IntKind.i64 (0 : Int),
              SV.bool false, SV.int IntKind.i64 (0 : Int), SV.int IntKind.i64 (0 : Int), SV.int IntKind.i64 (0 : Int),
              SV.bool (bitI BinOp.and IntKind.i64 (b % (8 : Int)) (1 : Int) == (1 : Int)),
              SV.bool (bitI BinOp.and IntKind.i64 (b % (8 : Int)) (2 : Int) == (2 : Int)),
              SV.bool (bitI BinOp.and IntKind.i64 (b % (8 : Int)) (4 : Int) == (4 : Int)),
              SV.int IntKind.i64 (w % (1125899906842624 : Int))]]]) := by kernel_rfl
theorem p9b0 (x0 x1 x2 : Rw) (F : Fc) (Kt : KT) : evalC C8 0  0 c9_3 (tplF 70 L9 (v9 (.int .i64 0))) ((h9 x0 x1 x2 F).map mkB) ( obsN L9 M9 Kt) = (
    bif bitI BinOp.and IntKind.i64 (x0.b % (8 : Int)) (2 : Int) == (2 : Int) then
      bif bitI BinOp.and IntKind.i64 (x0.b % (8 : Int)) (4 : Int) == (4 : Int) then
        Kt Ex.normal (70 : Nat)
          [SV.ptr (0 : Nat) (0 : Nat) (12 : Nat) (0 : Nat), SV.ptr (1 : Nat) (0 : Nat) (16 : Nat) (0 : Nat),
            SV.ptr (2 : Nat) (0 : Nat) (16 : Nat) (0 : Nat), SV.int IntKind.i64 (1 : Int)]
          [BO.rows (12 : Nat) (1 : Nat) true (30 : Nat)
              [[SV.int IntKind.i64 x0.b, SV.int IntKind.i64 x0.l, SV.int IntKind.i64 x0.a, SV.int IntKind.i64 x0.m,
                  SV.int IntKind.i64 x1.b, SV.int IntKind.i64 x1.l, SV.int IntKind.i64 x1.a, SV.int IntKind.i64 x1.m,
                  SV.int IntKind.i64 x2.b, SV.int IntKind.i64 x2.l, SV.int IntKind.i64 x2.a, SV.int IntKind.i64 x2.m]],
            BO.rows (16 : Nat) (1 : Nat) true (28 : Nat)
              [[SV.bool false, SV.int IntKind.i64 (0 : Int), SV.int IntKind.i64 (0 : Int), SV.int IntKind.i64 (0 : Int),
                  SV.bool false, SV.int IntKind.i64 (0 : Int), SV.int IntKind.i64 (0 : Int), SV.int IntKind.i64 (0 : Int),
                  SV.bool false, SV.int IntKind.i64 (0 : Int), SV.int IntKind.i64 (0 : Int), SV.int IntKind.i64 (0 : Int),
                  SV.bool false, SV.bool false, SV.bool false, SV.int IntKind.i64 (0 : Int)]],
            BO.rows (16 : Nat) (1 : Nat) true (28 : Nat)
              [[SV.bool (bitI BinOp.and IntKind.i64 (x0.b % (8 : Int)) (1 : Int) == (1 : Int)),
                  SV.int IntKind.i64 (x0.l % (1125899906842624 : Int)),
                  SV.int IntKind.i64 (x0.a % (1125899906842624 : Int)),
                  SV.int IntKind.i64 (IntKind.i64.wrap ((1 : Int) + x0.m % (256 : Int))), SV.bool F.k1,
                  SV.int IntKind.i64 F.a1, SV.int IntKind.i64 F.b1, SV.int IntKind.i64 F.n1, SV.bool F.k2,
                  SV.int IntKind.i64 F.a2, SV.int IntKind.i64 F.b2, SV.int IntKind.i64 F.n2, SV.bool F.cf, SV.bool F.lm,
                  SV.bool F.pr, SV.int IntKind.i64 F.now]]]
      else
        Kt Ex.normal (70 : Nat)
          [SV.ptr (0 : Nat) (0 : Nat) (12 : Nat) (0 : Nat), SV.ptr (1 : Nat) (0 : Nat) (16 : Nat) (0 : Nat),
            SV.ptr (2 : Nat) (0 : Nat) (16 : Nat) (0 : Nat), SV.int IntKind.i64 (1 : Int)]
          [BO.rows (12 : Nat) (1 : Nat) true (30 : Nat)
              [[SV.int IntKind.i64 x0.b, SV.int IntKind.i64 x0.l, SV.int IntKind.i64 x0.a, SV.int IntKind.i64 x0.m,
                  SV.int IntKind.i64 x1.b, SV.int IntKind.i64 x1.l, SV.int IntKind.i64 x1.a, SV.int IntKind.i64 x1.m,
                  SV.int IntKind.i64 x2.b, SV.int IntKind.i64 x2.l, SV.int IntKind.i64 x2.a, SV.int IntKind.i64 x2.m]],
            BO.rows (16 : Nat) (1 : Nat) true (28 : Nat)
              [[SV.bool false, SV.int IntKind.i64 (0 : Int), SV.int IntKind.i64 (0 : Int), SV.int IntKind.i64 (0 : Int),
                  SV.bool false, SV.int IntKind.i64 (0 : Int), SV.int IntKind.i64 (0 : Int), SV.int IntKind.i64 (0 : Int),
                  SV.bool false, SV.int IntKind.i64 (0 : Int), SV.int IntKind.i64 (0 : Int), SV.int IntKind.i64 (0 : Int),
                  SV.bool false, SV.bool false, SV.bool false, SV.int IntKind.i64 (0 : Int)]],
            BO.rows (16 : Nat) (1 : Nat) true (28 : Nat)
              [[SV.bool (bitI BinOp.and IntKind.i64 (x0.b % (8 : Int)) (1 : Int) == (1 : Int)),
                  SV.int IntKind.i64 (x0.l % (1125899906842624 : Int)), SV.int IntKind.i64 (-1 : Int),
                  SV.int IntKind.i64 (0 : Int), SV.bool F.k1, SV.int IntKind.i64 F.a1, SV.int IntKind.i64 F.b1,
                  SV.int IntKind.i64 F.n1, SV.bool F.k2, SV.int IntKind.i64 F.a2, SV.int IntKind.i64 F.b2,
                  SV.int IntKind.i64 F.n2, SV.bool F.cf, SV.bool F.lm, SV.bool F.pr, SV.int IntKind.i64 F.now]]]
    else
      bif bitI BinOp.and IntKind.i64 (x0.b % (8 : Int)) (4 : Int) == (4 : Int) then
        Kt Ex.normal (70 : Nat)
          [SV.ptr (0 : Nat) (0 : Nat) (12 : Nat) (0 : Nat), SV.ptr (1 : Nat) (0 : Nat) (16 : Nat) (0 : Nat),
            SV.ptr (2 : Nat) (0 : Nat) (16 : Nat) (0 : Nat), SV.int IntKind.i64 (1 : Int)]
          [BO.rows (12 : Nat) (1 : Nat) true (30 : Nat)
              [[SV.int IntKind.i64 x0.b, SV.int IntKind.i64 x0.l, SV.int IntKind.i64 x0.a, SV.int IntKind.i64 x0.m,
                  SV.int IntKind.i64 x1.b, SV.int IntKind.i64 x1.l, SV.int IntKind.i64 x1.a, SV.int IntKind.i64 x1.m,
                  SV.int IntKind.i64 x2.b, SV.int IntKind.i64 x2.l, SV.int IntKind.i64 x2.a, SV.int IntKind.i64 x2.m]],
            BO.rows (16 : Nat) (1 : Nat) true (28 : Nat)
              [[SV.bool false, SV.int IntKind.i64 (0 : Int), SV.int IntKind.i64 (0 : Int), SV.int IntKind.i64 (0 : Int),
                  SV.bool false, SV.int IntKind.i64 (0 : Int), SV.int IntKind.i64 (0 : Int), SV.int IntKind.i64 (0 : Int),
                  SV.bool false, SV.int IntKind.i64 (0 : Int), SV.int IntKind.i64 (0 : Int), SV.int IntKind.i64 (0 : Int),
                  SV.bool false, SV.bool false, SV.bool false, SV.int IntKind.i64 (0 : Int)]],
            BO.rows (16 : Nat) (1 : Nat) true (28 : Nat)
              [[SV.bool (bitI BinOp.and IntKind.i64 (x0.b % (8 : Int)) (1 : Int) == (1 : Int)),
                  SV.int IntKind.i64 (-1 : Int), SV.int IntKind.i64 (x0.a % (1125899906842624 : Int)),
                  SV.int IntKind.i64 (IntKind.i64.wrap ((1 : Int) + x0.m % (256 : Int))), SV.bool F.k1,
                  SV.int IntKind.i64 F.a1, SV.int IntKind.i64 F.b1, SV.int IntKind.i64 F.n1, SV.bool F.k2,
                  SV.int IntKind.i64 F.a2, SV.int IntKind.i64 F.b2, SV.int IntKind.i64 F.n2, SV.bool F.cf, SV.bool F.lm,
                  SV.bool F.pr, SV.int IntKind.i64 F.now]]]
      else
        Kt Ex.normal (70 : Nat)
          [SV.ptr (0 : Nat) (0 : Nat) (12 : Nat) (0 : Nat), SV.ptr (1 : Nat) (0 : Nat) (16 : Nat) (0 : Nat),
            SV.ptr (2 : Nat) (0 : Nat) (16 : Nat) (0 : Nat), SV.int IntKind.i64 (1 : Int)]
          [BO.rows (12 : Nat) (1 : Nat) true (30 : Nat)
              [[SV.int IntKind.i64 x0.b, SV.int IntKind.i64 x0.l, SV.int IntKind.i64 x0.a, SV.int IntKind.i64 x0.m,
                  SV.int IntKind.i64 x1.b, SV.int IntKind.i64 x1.l, SV.int IntKind.i64 x1.a, SV.int IntKind.i64 x1.m,
                  SV.int IntKind.i64 x2.b, SV.int IntKind.i64 x2.l, SV.int IntKind.i64 x2.a, SV.int IntKind.i64 x2.m]],
            BO.rows (16 : Nat) (1 : Nat) true (28 : Nat)
              [[SV.bool false, SV.int IntKind.i64 (0 : Int), SV.int IntKind.i64 (0 : Int), SV.int IntKind.i64 (0 : Int),
                  SV.bool false, SV.int IntKind.i64 (0 : Int), SV.int IntKind.i64 (0 : Int), SV.int IntKind.i64 (0 : Int),
                  SV.bool false, SV.int IntKind.i64 (0 : Int), SV.int IntKind.i64 (0 : Int), SV.int IntKind.i64 (0 : Int),
                  SV.bool false, SV.bool false, SV.bool false, SV.int IntKind.i64 (0 : Int)]],
            BO.rows (16 : Nat) (1 : Nat) true (28 : Nat)
              [[SV.bool (bitI BinOp.and IntKind.i64 (x0.b % (8 : Int)) (1 : Int) == (1 : Int)),
                  SV.int IntKind.i64 (-1 : Int), SV.int IntKind.i64 (-1 : Int), SV.int IntKind.i64 (0 : Int), SV.bool F.k1,
                  SV.int IntKind.i64 F.a1, SV.int IntKind.i64 F.b1, SV.int IntKind.i64 F.n1, SV.bool F.k2,
                  SV.int IntKind.i64 F.a2, SV.int IntKind.i64 F.b2, SV.int IntKind.i64 F.n2, SV.bool F.cf, SV.bool F.lm,
                  SV.bool F.pr, SV.int IntKind.i64 F.now]]]) := by kernel_rfl
theorem p9b1 (x0 x1 x2 : Rw) (F : Fc) (Kt : KT) : evalC C8 0  0 c9_3 (tplF 70 L9 (v9 (.int .i64 1))) ((h9 x0 x1 x2 F).map mkB) ( obsN L9 M9 Kt) = (
    bif bitI BinOp.and IntKind.i64 (x1.b % (8 : Int)) (2 : Int) == (2 : Int) then
      bif bitI BinOp.and IntKind.i64 (x1.b % (8 : Int)) (4 : Int) == (4 : Int) then
        Kt Ex.normal (70 : Nat)
          [SV.ptr (0 : Nat) (0 : Nat) (12 : Nat) (0 : Nat), SV.ptr (1 : Nat) (0 : Nat) (16 : Nat) (0 : Nat),
            SV.ptr (2 : Nat) (0 : Nat) (16 : Nat) (0 : Nat), SV.int IntKind.i64 (2 : Int)]
          [BO.rows (12 : Nat) (1 : Nat) true (30 : Nat)
              [[SV.int IntKind.i64 x0.b, SV.int IntKind.i64 x0.l, SV.int IntKind.i64 x0.a, SV.int IntKind.i64 x0.m,
                  SV.int IntKind.i64 x1.b, SV.int IntKind.i64 x1.l, SV.int IntKind.i64 x1.a, SV.int IntKind.i64 x1.m,
                  SV.int IntKind.i64 x2.b, SV.int IntKind.i64 x2.l, SV.int IntKind.i64 x2.a, SV.int IntKind.i64 x2.m]],
            BO.rows (16 : Nat) (1 : Nat) true (28 : Nat)
              [[SV.bool false, SV.int IntKind.i64 (0 : Int), SV.int IntKind.i64 (0 : Int), SV.int IntKind.i64 (0 : Int),
                  SV.bool false, SV.int IntKind.i64 (0 : Int), SV.int IntKind.i64 (0 : Int), SV.int IntKind.i64 (0 : Int),
                  SV.bool false, SV.int IntKind.i64 (0 : Int), SV.int IntKind.i64 (0 : Int), SV.int IntKind.i64 (0 : Int),
                  SV.bool false, SV.bool false, SV.bool false, SV.int IntKind.i64 (0 : Int)]],
            BO.rows (16 : Nat) (1 : Nat) true (28 : Nat)
              [[SV.bool F.k0, SV.int IntKind.i64 F.a0, SV.int IntKind.i64 F.b0, SV.int IntKind.i64 F.n0,
                  SV.bool (bitI BinOp.and IntKind.i64 (x1.b % (8 : Int)) (1 : Int) == (1 : Int)),
                  SV.int IntKind.i64 (x1.l % (1125899906842624 : Int)),
                  SV.int IntKind.i64 (x1.a % (1125899906842624 : Int)),
                  SV.int IntKind.i64 (IntKind.i64.wrap ((1 : Int) + x1.m % (256 : Int))), SV.bool F.k2,
                  SV.int IntKind.i64 F.a2, SV.int IntKind.i64 F.b2, SV.int IntKind.i64 F.n2, SV.bool F.cf, SV.bool F.lm,
                  SV.bool F.pr, SV.int IntKind.i64 F.now]]]
      else
        Kt Ex.normal (70 : Nat)
          [SV.ptr (0 : Nat) (0 : Nat) (12 : Nat) (0 : Nat), SV.ptr (1 : Nat) (0 : Nat) (16 : Nat) (0 : Nat),
            SV.ptr (2 : Nat) (0 : Nat) (16 : Nat) (0 : Nat), SV.int IntKind.i64 (2 : Int)]
          [BO.rows (12 : Nat) (1 : Nat) true (30 : Nat)
              [[SV.int IntKind.i64 x0.b, SV.int IntKind.i64 x0.l, SV.int IntKind.i64 x0.a, SV.int IntKind.i64 x0.m,
                  SV.int IntKind.i64 x1.b, SV.int IntKind.i64 x1.l, SV.int IntKind.i64 x1.a, SV.int IntKind.i64 x1.m,
                  SV.int IntKind.i64 x2.b, SV.int IntKind.i64 x2.l, SV.int IntKind.i64 x2.a, SV.int IntKind.i64 x2.m]],
            BO.rows (16 : Nat) (1 : Nat) true (28 : Nat)
              [[SV.bool false, SV.int IntKind.i64 (0 : Int), SV.int IntKind.i64 (0 : Int), SV.int IntKind.i64 (0 : Int),
                  SV.bool false, SV.int IntKind.i64 (0 : Int), SV.int IntKind.i64 (0 : Int), SV.int IntKind.i64 (0 : Int),
                  SV.bool false, SV.int IntKind.i64 (0 : Int), SV.int IntKind.i64 (0 : Int), SV.int IntKind.i64 (0 : Int),
                  SV.bool false, SV.bool false, SV.bool false, SV.int IntKind.i64 (0 : Int)]],
            BO.rows (16 : Nat) (1 : Nat) true (28 : Nat)
              [[SV.bool F.k0, SV.int IntKind.i64 F.a0, SV.int IntKind.i64 F.b0, SV.int IntKind.i64 F.n0,
                  SV.bool (bitI BinOp.and IntKind.i64 (x1.b % (8 : Int)) (1 : Int) == (1 : Int)),
                  SV.int IntKind.i64 (x1.l % (1125899906842624 : Int)), SV.int IntKind.i64 (-1 : Int),
                  SV.int IntKind.i64 (0 : Int), SV.bool F.k2, SV.int IntKind.i64 F.a2, SV.int IntKind.i64 F.b2,
                  SV.int IntKind.i64 F.n2, SV.bool F.cf, SV.bool F.lm, SV.bool F.pr, SV.int IntKind.i64 F.now]]]
    else
      bif bitI BinOp.and IntKind.i64 (x1.b % (8 : Int)) (4 : Int) == (4 : Int) then
        Kt Ex.normal (70 : Nat)
          [SV.ptr (0 : Nat) (0 : Nat) (12 : Nat) (0 : Nat), SV.ptr (1 : Nat) (0 : Nat) (16 : Nat) (0 : Nat),
            SV.ptr (2 : Nat) (0 : Nat) (16 : Nat) (0 : Nat), SV.int IntKind.i64 (2 : Int)]
          [BO.rows (12 : Nat) (1 : Nat) true (30 : Nat)
              [[SV.int IntKind.i64 x0.b, SV.int IntKind.i64 x0.l, SV.int IntKind.i64 x0.a, SV.int IntKind.i64 x0.m,
                  SV.int IntKind.i64 x1.b, SV.int IntKind.i64 x1.l, SV.int IntKind.i64 x1.a, SV.int IntKind.i64 x1.m,
                  SV.int IntKind.i64 x2.b, SV.int IntKind.i64 x2.l, SV.int IntKind.i64 x2.a, SV.int IntKind.i64 x2.m]],
            BO.rows (16 : Nat) (1 : Nat) true (28 : Nat)
              [[SV.bool false, SV.int IntKind.i64 (0 : Int), SV.int IntKind.i64 (0 : Int), SV.int IntKind.i64 (0 : Int),
                  SV.bool false, SV.int IntKind.i64 (0 : Int), SV.int IntKind.i64 (0 : Int), SV.int IntKind.i64 (0 : Int),
                  SV.bool false, SV.int IntKind.i64 (0 : Int), SV.int IntKind.i64 (0 : Int), SV.int IntKind.i64 (0 : Int),
                  SV.bool false, SV.bool false, SV.bool false, SV.int IntKind.i64 (0 : Int)]],
            BO.rows (16 : Nat) (1 : Nat) true (28 : Nat)
              [[SV.bool F.k0, SV.int IntKind.i64 F.a0, SV.int IntKind.i64 F.b0, SV.int IntKind.i64 F.n0,
                  SV.bool (bitI BinOp.and IntKind.i64 (x1.b % (8 : Int)) (1 : Int) == (1 : Int)),
                  SV.int IntKind.i64 (-1 : Int), SV.int IntKind.i64 (x1.a % (1125899906842624 : Int)),
                  SV.int IntKind.i64 (IntKind.i64.wrap ((1 : Int) + x1.m % (256 : Int))), SV.bool F.k2,
                  SV.int IntKind.i64 F.a2, SV.int IntKind.i64 F.b2, SV.int IntKind.i64 F.n2, SV.bool F.cf, SV.bool F.lm,
                  SV.bool F.pr, SV.int IntKind.i64 F.now]]]
      else
        Kt Ex.normal (70 : Nat)
          [SV.ptr (0 : Nat) (0 : Nat) (12 : Nat) (0 : Nat), SV.ptr (1 : Nat) (0 : Nat) (16 : Nat) (0 : Nat),
            SV.ptr (2 : Nat) (0 : Nat) (16 : Nat) (0 : Nat), SV.int IntKind.i64 (2 : Int)]
          [BO.rows (12 : Nat) (1 : Nat) true (30 : Nat)
              [[SV.int IntKind.i64 x0.b, SV.int IntKind.i64 x0.l, SV.int IntKind.i64 x0.a, SV.int IntKind.i64 x0.m,
                  SV.int IntKind.i64 x1.b, SV.int IntKind.i64 x1.l, SV.int IntKind.i64 x1.a, SV.int IntKind.i64 x1.m,
                  SV.int IntKind.i64 x2.b, SV.int IntKind.i64 x2.l, SV.int IntKind.i64 x2.a, SV.int IntKind.i64 x2.m]],
            BO.rows (16 : Nat) (1 : Nat) true (28 : Nat)
              [[SV.bool false, SV.int IntKind.i64 (0 : Int), SV.int IntKind.i64 (0 : Int), SV.int IntKind.i64 (0 : Int),
                  SV.bool false, SV.int IntKind.i64 (0 : Int), SV.int IntKind.i64 (0 : Int), SV.int IntKind.i64 (0 : Int),
                  SV.bool false, SV.int IntKind.i64 (0 : Int), SV.int IntKind.i64 (0 : Int), SV.int IntKind.i64 (0 : Int),
                  SV.bool false, SV.bool false, SV.bool false, SV.int IntKind.i64 (0 : Int)]],
            BO.rows (16 : Nat) (1 : Nat) true (28 : Nat)
              [[SV.bool F.k0, SV.int IntKind.i64 F.a0, SV.int IntKind.i64 F.b0, SV.int IntKind.i64 F.n0,
                  SV.bool (bitI BinOp.and IntKind.i64 (x1.b % (8 : Int)) (1 : Int) == (1 : Int)),
                  SV.int IntKind.i64 (-1 : Int), SV.int IntKind.i64 (-1 : Int), SV.int IntKind.i64 (0 : Int), SV.bool F.k2,
                  SV.int IntKind.i64 F.a2, SV.int IntKind.i64 F.b2, SV.int IntKind.i64 F.n2, SV.bool F.cf, SV.bool F.lm,
                  SV.bool F.pr, SV.int IntKind.i64 F.now]]]) := by kernel_rfl
theorem p9b2 (x0 x1 x2 : Rw) (F : Fc) (Kt : KT) : evalC C8 0  0 c9_3 (tplF 70 L9 (v9 (.int .i64 2))) ((h9 x0 x1 x2 F).map mkB) ( obsN L9 M9 Kt) = (
    bif bitI BinOp.and IntKind.i64 (x2.b % (8 : Int)) (2 : Int) == (2 : Int) then
      bif bitI BinOp.and IntKind.i64 (x2.b % (8 : Int)) (4 : Int) == (4 : Int) then
        Kt Ex.normal (70 : Nat)
          [SV.ptr (0 : Nat) (0 : Nat) (12 : Nat) (0 : Nat), SV.ptr (1 : Nat) (0 : Nat) (16 : Nat) (0 : Nat),
            SV.ptr (2 : Nat) (0 : Nat) (16 : Nat) (0 : Nat), SV.int IntKind.i64 (3 : Int)]
          [BO.rows (12 : Nat) (1 : Nat) true (30 : Nat)
              [[SV.int IntKind.i64 x0.b, SV.int IntKind.i64 x0.l, SV.int IntKind.i64 x0.a, SV.int IntKind.i64 x0.m,
                  SV.int IntKind.i64 x1.b, SV.int IntKind.i64 x1.l, SV.int IntKind.i64 x1.a, SV.int IntKind.i64 x1.m,
                  SV.int IntKind.i64 x2.b, SV.int IntKind.i64 x2.l, SV.int IntKind.i64 x2.a, SV.int IntKind.i64 x2.m]],
            BO.rows (16 : Nat) (1 : Nat) true (28 : Nat)
              [[SV.bool false, SV.int IntKind.i64 (0 : Int), SV.int IntKind.i64 (0 : Int), SV.int IntKind.i64 (0 : Int),
                  SV.bool false, SV.int IntKind.i64 (0 : Int), SV.int IntKind.i64 (0 : Int), SV.int IntKind.i64 (0 : Int),
                  SV.bool false, SV.int IntKind.i64 (0 : Int), SV.int IntKind.i64 (0 : Int), SV.int IntKind.i64 (0 : Int),
                  SV.bool false, SV.bool false, SV.bool false, SV.int IntKind.i64 (0 : Int)]],
            BO.rows (16 : Nat) (1 : Nat) true (28 : Nat)
              [[SV.bool F.k0, SV.int IntKind.i64 F.a0, SV.int IntKind.i64 F.b0, SV.int IntKind.i64 F.n0, SV.bool F.k1,
                  SV.int IntKind.i64 F.a1, SV.int IntKind.i64 F.b1, SV.int IntKind.i64 F.n1,
                  SV.bool (bitI BinOp.and IntKind.i64 (x2.b % (8 : Int)) (1 : Int) == (1 : Int)),
                  SV.int IntKind.i64 (x2.l % (1125899906842624 : Int)),
                  SV.int IntKind.i64 (x2.a % (1125899906842624 : Int)),
                  SV.int IntKind.i64 (IntKind.i64.wrap ((1 : Int) + x2.m % (256 : Int))), SV.bool F.cf, SV.bool F.lm,
                  SV.bool F.pr, SV.int IntKind.i64 F.now]]]
      else
        Kt Ex.normal (70 : Nat)
          [SV.ptr (0 : Nat) (0 : Nat) (12 : Nat) (0 : Nat), SV.ptr (1 : Nat) (0 : Nat) (16 : Nat) (0 : Nat),
            SV.ptr (2 : Nat) (0 : Nat) (16 : Nat) (0 : Nat), SV.int IntKind.i64 (3 : Int)]
          [BO.rows (12 : Nat) (1 : Nat) true (30 : Nat)
              [[SV.int IntKind.i64 x0.b, SV.int IntKind.i64 x0.l, SV.int IntKind.i64 x0.a, SV.int IntKind.i64 x0.m,
                  SV.int IntKind.i64 x1.b, SV.int IntKind.i64 x1.l, SV.int IntKind.i64 x1.a, SV.int IntKind.i64 x1.m,
                  SV.int IntKind.i64 x2.b, SV.int IntKind.i64 x2.l, SV.int IntKind.i64 x2.a, SV.int IntKind.i64 x2.m]],
            BO.rows (16 : Nat) (1 : Nat) true (28 : Nat)
              [[SV.bool false, SV.int IntKind.i64 (0 : Int), SV.int IntKind.i64 (0 : Int), SV.int IntKind.i64 (0 : Int),
                  SV.bool false, SV.int IntKind.i64 (0 : Int), SV.int IntKind.i64 (0 : Int), SV.int IntKind.i64 (0 : Int),
                  SV.bool false, SV.int IntKind.i64 (0 : Int), SV.int IntKind.i64 (0 : Int), SV.int IntKind.i64 (0 : Int),
                  SV.bool false, SV.bool false, SV.bool false, SV.int IntKind.i64 (0 : Int)]],
            BO.rows (16 : Nat) (1 : Nat) true (28 : Nat)
              [[SV.bool F.k0, SV.int IntKind.i64 F.a0, SV.int IntKind.i64 F.b0, SV.int IntKind.i64 F.n0, SV.bool F.k1,
                  SV.int IntKind.i64 F.a1, SV.int IntKind.i64 F.b1, SV.int IntKind.i64 F.n1,
                  SV.bool (bitI BinOp.and IntKind.i64 (x2.b % (8 : Int)) (1 : Int) == (1 : Int)),
                  SV.int IntKind.i64 (x2.l % (1125899906842624 : Int)), SV.int IntKind.i64 (-1 : Int),
                  SV.int IntKind.i64 (0 : Int), SV.bool F.cf, SV.bool F.lm, SV.bool F.pr, SV.int IntKind.i64 F.now]]]
    else
      bif bitI BinOp.and IntKind.i64 (x2.b % (8 : Int)) (4 : Int) == (4 : Int) then
        Kt Ex.normal (70 : Nat)
          [SV.ptr (0 : Nat) (0 : Nat) (12 : Nat) (0 : Nat), SV.ptr (1 : Nat) (0 : Nat) (16 : Nat) (0 : Nat),
            SV.ptr (2 : Nat) (0 : Nat) (16 : Nat) (0 : Nat), SV.int IntKind.i64 (3 : Int)]
          [BO.rows (12 : Nat) (1 : Nat) true (30 : Nat)
              [[SV.int IntKind.i64 x0.b, SV.int IntKind.i64 x0.l, SV.int IntKind.i64 x0.a, SV.int IntKind.i64 x0.m,
                  SV.int IntKind.i64 x1.b, SV.int IntKind.i64 x1.l, SV.int IntKind.i64 x1.a, SV.int IntKind.i64 x1.m,
                  SV.int IntKind.i64 x2.b, SV.int IntKind.i64 x2.l, SV.int IntKind.i64 x2.a, SV.int IntKind.i64 x2.m]],
            BO.rows (16 : Nat) (1 : Nat) true (28 : Nat)
              [[SV.bool false, SV.int IntKind.i64 (0 : Int), SV.int IntKind.i64 (0 : Int), SV.int IntKind.i64 (0 : Int),
                  SV.bool false, SV.int IntKind.i64 (0 : Int), SV.int IntKind.i64 (0 : Int), SV.int IntKind.i64 (0 : Int),
                  SV.bool false, SV.int IntKind.i64 (0 : Int), SV.int IntKind.i64 (0 : Int), SV.int IntKind.i64 (0 : Int),
                  SV.bool false, SV.bool false, SV.bool false, SV.int IntKind.i64 (0 : Int)]],
            BO.rows (16 : Nat) (1 : Nat) true (28 : Nat)
              [[SV.bool F.k0, SV.int IntKind.i64 F.a0, SV.int IntKind.i64 F.b0, SV.int IntKind.i64 F.n0, SV.bool F.k1,
                  SV.int IntKind.i64 F.a1, SV.int IntKind.i64 F.b1, SV.int IntKind.i64 F.n1,
                  SV.bool (bitI BinOp.and IntKind.i64 (x2.b % (8 : Int)) (1 : Int) == (1 : Int)),
                  SV.int IntKind.i64 (-1 : Int), SV.int IntKind.i64 (x2.a % (1125899906842624 : Int)),
                  SV.int IntKind.i64 (IntKind.i64.wrap ((1 : Int) + x2.m % (256 : Int))), SV.bool F.cf, SV.bool F.lm,
                  SV.bool F.pr, SV.int IntKind.i64 F.now]]]
      else
        Kt Ex.normal (70 : Nat)
          [SV.ptr (0 : Nat) (0 : Nat) (12 : Nat) (0 : Nat), SV.ptr (1 : Nat) (0 : Nat) (16 : Nat) (0 : Nat),
            SV.ptr (2 : Nat) (0 : Nat) (16 : Nat) (0 : Nat), SV.int IntKind.i64 (3 : Int)]
          [BO.rows (12 : Nat) (1 : Nat) true (30 : Nat)
              [[SV.int IntKind.i64 x0.b, SV.int IntKind.i64 x0.l, SV.int IntKind.i64 x0.a, SV.int IntKind.i64 x0.m,
                  SV.int IntKind.i64 x1.b, SV.int IntKind.i64 x1.l, SV.int IntKind.i64 x1.a, SV.int IntKind.i64 x1.m,
                  SV.int IntKind.i64 x2.b, SV.int IntKind.i64 x2.l, SV.int IntKind.i64 x2.a, SV.int IntKind.i64 x2.m]],
            BO.rows (16 : Nat) (1 : Nat) true (28 : Nat)
              [[SV.bool false, SV.int IntKind.i64 (0 : Int), SV.int IntKind.i64 (0 : Int), SV.int IntKind.i64 (0 : Int),
                  SV.bool false, SV.int IntKind.i64 (0 : Int), SV.int IntKind.i64 (0 : Int), SV.int IntKind.i64 (0 : Int),
                  SV.bool false, SV.int IntKind.i64 (0 : Int), SV.int IntKind.i64 (0 : Int), SV.int IntKind.i64 (0 : Int),
                  SV.bool false, SV.bool false, SV.bool false, SV.int IntKind.i64 (0 : Int)]],
            BO.rows (16 : Nat) (1 : Nat) true (28 : Nat)
              [[SV.bool F.k0, SV.int IntKind.i64 F.a0, SV.int IntKind.i64 F.b0, SV.int IntKind.i64 F.n0, SV.bool F.k1,
                  SV.int IntKind.i64 F.a1, SV.int IntKind.i64 F.b1, SV.int IntKind.i64 F.n1,
                  SV.bool (bitI BinOp.and IntKind.i64 (x2.b % (8 : Int)) (1 : Int) == (1 : Int)),
                  SV.int IntKind.i64 (-1 : Int), SV.int IntKind.i64 (-1 : Int), SV.int IntKind.i64 (0 : Int), SV.bool F.cf,
                  SV.bool F.lm, SV.bool F.pr, SV.int IntKind.i64 F.now]]]) := by kernel_rfl
theorem p9b3 (x0 x1 x2 : Rw) (F : Fc) (Kt : KT) : evalC C8 0  0 c9_3 (tplF 70 L9 (v9 (.int .i64 3))) ((h9 x0 x1 x2 F).map mkB) ( obsN L9 M9 Kt) = (
    Kt (Ex.exit (0 : Nat)) (70 : Nat)
      [SV.ptr (0 : Nat) (0 : Nat) (12 : Nat) (0 : Nat), SV.ptr (1 : Nat) (0 : Nat) (16 : Nat) (0 : Nat),
        SV.ptr (2 : Nat) (0 : Nat) (16 : Nat) (0 : Nat), SV.int IntKind.i64 (3 : Int)]
      [BO.rows (12 : Nat) (1 : Nat) true (30 : Nat)
          [[SV.int IntKind.i64 x0.b, SV.int IntKind.i64 x0.l, SV.int IntKind.i64 x0.a, SV.int IntKind.i64 x0.m,
              SV.int IntKind.i64 x1.b, SV.int IntKind.i64 x1.l, SV.int IntKind.i64 x1.a, SV.int IntKind.i64 x1.m,
              SV.int IntKind.i64 x2.b, SV.int IntKind.i64 x2.l, SV.int IntKind.i64 x2.a, SV.int IntKind.i64 x2.m]],
        BO.rows (16 : Nat) (1 : Nat) true (28 : Nat)
          [[SV.bool false, SV.int IntKind.i64 (0 : Int), SV.int IntKind.i64 (0 : Int), SV.int IntKind.i64 (0 : Int),
              SV.bool false, SV.int IntKind.i64 (0 : Int), SV.int IntKind.i64 (0 : Int), SV.int IntKind.i64 (0 : Int),
              SV.bool false, SV.int IntKind.i64 (0 : Int), SV.int IntKind.i64 (0 : Int), SV.int IntKind.i64 (0 : Int),
              SV.bool false, SV.bool false, SV.bool false, SV.int IntKind.i64 (0 : Int)]],
        BO.rows (16 : Nat) (1 : Nat) true (28 : Nat)
          [[SV.bool F.k0, SV.int IntKind.i64 F.a0, SV.int IntKind.i64 F.b0, SV.int IntKind.i64 F.n0, SV.bool F.k1,
              SV.int IntKind.i64 F.a1, SV.int IntKind.i64 F.b1, SV.int IntKind.i64 F.n1, SV.bool F.k2,
              SV.int IntKind.i64 F.a2, SV.int IntKind.i64 F.b2, SV.int IntKind.i64 F.n2, SV.bool F.cf, SV.bool F.lm,
              SV.bool F.pr, SV.int IntKind.i64 F.now]]]) := by kernel_rfl
theorem p9c (x0 x1 x2 : Rw) (F : Fc) (Kt : KT) (kr : SV → Prop) : evalC C8 64  0 c9_4 (tplF 70 L9 (v9 .top)) ((h9 x0 x1 x2 F).map mkB) ( obsE Try.prog Try.f9.results.toList L9 M9 Kt kr) = (
    kr
      (SV.agg
        [SV.bool F.k0, SV.int IntKind.i64 F.a0, SV.int IntKind.i64 F.b0, SV.int IntKind.i64 F.n0, SV.bool F.k1,
          SV.int IntKind.i64 F.a1, SV.int IntKind.i64 F.b1, SV.int IntKind.i64 F.n1, SV.bool F.k2, SV.int IntKind.i64 F.a2,
          SV.int IntKind.i64 F.b2, SV.int IntKind.i64 F.n2, SV.bool F.cf, SV.bool F.lm, SV.bool F.pr,
          SV.int IntKind.i64 F.now])) := by kernel_rfl
theorem p9i (x0 x1 x2 : Rw) (F : Fc) (Kt : KT) : evalC C8 0  0 c9_2 (tplF 70 L9 (v9 .top)) ((h9 x0 x1 x2 F).map mkB) ( obsN L9 M9 Kt) = (
    Kt Ex.normal (70 : Nat)
      [SV.ptr (0 : Nat) (0 : Nat) (12 : Nat) (0 : Nat), SV.ptr (1 : Nat) (0 : Nat) (16 : Nat) (0 : Nat),
        SV.ptr (2 : Nat) (0 : Nat) (16 : Nat) (0 : Nat), SV.int IntKind.i64 (0 : Int)]
      [BO.rows (12 : Nat) (1 : Nat) true (30 : Nat)
          [[SV.int IntKind.i64 x0.b, SV.int IntKind.i64 x0.l, SV.int IntKind.i64 x0.a, SV.int IntKind.i64 x0.m,
              SV.int IntKind.i64 x1.b, SV.int IntKind.i64 x1.l, SV.int IntKind.i64 x1.a, SV.int IntKind.i64 x1.m,
              SV.int IntKind.i64 x2.b, SV.int IntKind.i64 x2.l, SV.int IntKind.i64 x2.a, SV.int IntKind.i64 x2.m]],
        BO.rows (16 : Nat) (1 : Nat) true (28 : Nat)
          [[SV.bool false, SV.int IntKind.i64 (0 : Int), SV.int IntKind.i64 (0 : Int), SV.int IntKind.i64 (0 : Int),
              SV.bool false, SV.int IntKind.i64 (0 : Int), SV.int IntKind.i64 (0 : Int), SV.int IntKind.i64 (0 : Int),
              SV.bool false, SV.int IntKind.i64 (0 : Int), SV.int IntKind.i64 (0 : Int), SV.int IntKind.i64 (0 : Int),
              SV.bool false, SV.bool false, SV.bool false, SV.int IntKind.i64 (0 : Int)]],
        BO.rows (16 : Nat) (1 : Nat) true (28 : Nat)
          [[SV.bool F.k0, SV.int IntKind.i64 F.a0, SV.int IntKind.i64 F.b0, SV.int IntKind.i64 F.n0, SV.bool F.k1,
              SV.int IntKind.i64 F.a1, SV.int IntKind.i64 F.b1, SV.int IntKind.i64 F.n1, SV.bool F.k2,
              SV.int IntKind.i64 F.a2, SV.int IntKind.i64 F.b2, SV.int IntKind.i64 F.n2, SV.bool F.cf, SV.bool F.lm,
              SV.bool F.pr, SV.int IntKind.i64 F.now]]]) := by kernel_rfl
end Go.Proofs.Ytfoogfhcjnpokaa
