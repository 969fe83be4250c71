/-
  What functions of the program come to, way by way: printed by a program, held by the kernel.
-/
import Derived.Test.YtfhkmagpgbcnjaaX2
namespace Go.Proofs.Ytfhkmagpgbcnjaa
open Go.RowKit
set_option maxRecDepth 100000

theorem t25 (a b c sp : Int) (kk : SV → Prop) : evalF C1 64 Try.f25 [.agg [.int .i64 a, .int .i64 b, .int .i64 c], .int .i64 sp] [] (fun v _ => kk v) = (
    bif chk a b c != (0 : Int) then kk (SV.int IntKind.i64 (chk a b c))
    else
      bif decide (sp < (0 : Int)) then kk (SV.int IntKind.i64 (160 : Int))
      else bif decide ((3 : Int) ≤ sp) then kk (SV.int IntKind.i64 (160 : Int)) else kk (SV.int IntKind.i64 (0 : Int))) := by kernel_rfl
theorem t27 (a b c sp : Int) (kk : SV → Prop) : evalF C1 64 Try.f27 [.agg [.int .i64 a, .int .i64 b, .int .i64 c], .int .i64 sp] [] (fun v _ => kk v) = (
    bif chk a b c != (0 : Int) then kk (SV.int IntKind.i64 (chk a b c))
    else
      bif decide (sp < (0 : Int)) then kk (SV.int IntKind.i64 (160 : Int))
      else bif decide ((2 : Int) < sp) then kk (SV.int IntKind.i64 (160 : Int)) else kk (SV.int IntKind.i64 (0 : Int))) := by kernel_rfl
theorem t18 (a b c : Int) (kk : SV → Prop) : evalF C1 64 Try.f18 [.agg [.int .i64 a, .int .i64 b, .int .i64 c]] [] (fun v _ => kk v) = (
    bif chk a b c != (0 : Int) then kk (SV.int IntKind.i64 (-1 : Int))
    else
      bif decide ((0 : Int) < a) then kk (SV.int IntKind.i64 (0 : Int))
      else
        bif decide ((0 : Int) < b) then kk (SV.int IntKind.i64 (1 : Int))
        else bif decide ((0 : Int) < c) then kk (SV.int IntKind.i64 (2 : Int)) else kk (SV.int IntKind.i64 (-1 : Int))) := by kernel_rfl
theorem t19 (a b c : Int) (kk : SV → Prop) : evalF C1 64 Try.f19 [.agg [.int .i64 a, .int .i64 b, .int .i64 c]] [] (fun v _ => kk v) = (
    bif chk a b c == (0 : Int) then
      bif decide ((0 : Int) < a) then kk (SV.int IntKind.i64 (0 : Int))
      else
        bif chk a b c == (0 : Int) then
          bif decide ((0 : Int) < b) then kk (SV.int IntKind.i64 (1 : Int))
          else
            bif chk a b c == (0 : Int) then
              bif decide ((0 : Int) < c) then kk (SV.int IntKind.i64 (2 : Int)) else kk (SV.int IntKind.i64 (-1 : Int))
            else kk (SV.int IntKind.i64 (-1 : Int))
        else kk (SV.int IntKind.i64 (-1 : Int))
    else kk (SV.int IntKind.i64 (-1 : Int))) := by kernel_rfl
theorem t20 (a b c : Int) (kk : SV → Prop) : evalF C1 64 Try.f20 [.agg [.int .i64 a, .int .i64 b, .int .i64 c]] [] (fun v _ => kk v) = (
    bif chk a b c != (0 : Int) then kk (SV.int IntKind.i64 (0 : Int))
    else kk (SV.int IntKind.i64 (IntKind.i64.wrap (IntKind.i64.wrap (IntKind.i64.wrap ((0 : Int) + a) + b) + c)))) := by kernel_rfl
theorem t21 (a b c : Int) (kk : SV → Prop) : evalF C1 64 Try.f21 [.agg [.int .i64 a, .int .i64 b, .int .i64 c]] [] (fun v _ => kk v) = (
    bif chk a b c != (0 : Int) then kk (SV.int IntKind.i64 (0 : Int))
    else kk (SV.int IntKind.i64 (IntKind.i64.wrap (IntKind.i64.wrap (a + b) + c)))) := by kernel_rfl
theorem t9_0 (a b c m : Int) (kk : SV → Prop) : evalF (C2 0) 64 Try.f9 [.agg [.int .i64 a, .int .i64 b, .int .i64 c], .int .i64 0, .int .i64 m] [] (fun v _ => kk v) = (
    bif decide (mayE a b c (0 : Int) = (0 : Int)) then
      bif decide (m < (1 : Int)) then
        kk
          (SV.tuple
            [SV.agg [SV.int IntKind.i64 (0 : Int), SV.int IntKind.i64 (0 : Int), SV.int IntKind.i64 (0 : Int)],
              SV.int IntKind.i64 (2 : Int)])
      else
        bif decide ((2 : Int) < m) then
          kk
            (SV.tuple
              [SV.agg [SV.int IntKind.i64 (0 : Int), SV.int IntKind.i64 (0 : Int), SV.int IntKind.i64 (0 : Int)],
                SV.int IntKind.i64 (2 : Int)])
        else
          kk
            (SV.tuple
              [SV.agg
                  [SV.int IntKind.i64 (put (0 : Int) (0 : Int) (if m > a then m else a) a),
                    SV.int IntKind.i64 (put (0 : Int) (1 : Int) (if m > a then m else a) b),
                    SV.int IntKind.i64 (put (0 : Int) (2 : Int) (if m > a then m else a) c)],
                SV.int IntKind.i64 (0 : Int)])
    else False) := by kernel_rfl
theorem t9_1 (a b c m : Int) (kk : SV → Prop) : evalF (C2 0) 64 Try.f9 [.agg [.int .i64 a, .int .i64 b, .int .i64 c], .int .i64 1, .int .i64 m] [] (fun v _ => kk v) = (
    bif decide (mayE a b c (1 : Int) = (0 : Int)) then
      bif decide (m < (1 : Int)) then
        kk
          (SV.tuple
            [SV.agg [SV.int IntKind.i64 (0 : Int), SV.int IntKind.i64 (0 : Int), SV.int IntKind.i64 (0 : Int)],
              SV.int IntKind.i64 (2 : Int)])
      else
        bif decide ((2 : Int) < m) then
          kk
            (SV.tuple
              [SV.agg [SV.int IntKind.i64 (0 : Int), SV.int IntKind.i64 (0 : Int), SV.int IntKind.i64 (0 : Int)],
                SV.int IntKind.i64 (2 : Int)])
        else
          kk
            (SV.tuple
              [SV.agg
                  [SV.int IntKind.i64 (put (1 : Int) (0 : Int) (if m > b then m else b) a),
                    SV.int IntKind.i64 (put (1 : Int) (1 : Int) (if m > b then m else b) b),
                    SV.int IntKind.i64 (put (1 : Int) (2 : Int) (if m > b then m else b) c)],
                SV.int IntKind.i64 (0 : Int)])
    else False) := by kernel_rfl
theorem t9_2 (a b c m : Int) (kk : SV → Prop) : evalF (C2 0) 64 Try.f9 [.agg [.int .i64 a, .int .i64 b, .int .i64 c], .int .i64 2, .int .i64 m] [] (fun v _ => kk v) = (
    bif decide (mayE a b c (2 : Int) = (0 : Int)) then
      bif decide (m < (1 : Int)) then
        kk
          (SV.tuple
            [SV.agg [SV.int IntKind.i64 (0 : Int), SV.int IntKind.i64 (0 : Int), SV.int IntKind.i64 (0 : Int)],
              SV.int IntKind.i64 (2 : Int)])
      else
        bif decide ((2 : Int) < m) then
          kk
            (SV.tuple
              [SV.agg [SV.int IntKind.i64 (0 : Int), SV.int IntKind.i64 (0 : Int), SV.int IntKind.i64 (0 : Int)],
                SV.int IntKind.i64 (2 : Int)])
        else
          kk
            (SV.tuple
              [SV.agg
                  [SV.int IntKind.i64 (put (2 : Int) (0 : Int) (if m > c then m else c) a),
                    SV.int IntKind.i64 (put (2 : Int) (1 : Int) (if m > c then m else c) b),
                    SV.int IntKind.i64 (put (2 : Int) (2 : Int) (if m > c then m else c) c)],
                SV.int IntKind.i64 (0 : Int)])
    else False) := by kernel_rfl
theorem t9e2 (a b c sp m : Int) (kk : SV → Prop) : evalF (C2 2) 64 Try.f9 [.agg [.int .i64 a, .int .i64 b, .int .i64 c], .int .i64 sp, .int .i64 m] [] (fun v _ => kk v) = (
    bif decide (mayE a b c sp = (2 : Int)) then
      kk
        (SV.tuple
          [SV.agg [SV.int IntKind.i64 (0 : Int), SV.int IntKind.i64 (0 : Int), SV.int IntKind.i64 (0 : Int)],
            SV.int IntKind.i64 (2 : Int)])
    else False) := by kernel_rfl
theorem t9e160 (a b c sp m : Int) (kk : SV → Prop) : evalF (C2 160) 64 Try.f9 [.agg [.int .i64 a, .int .i64 b, .int .i64 c], .int .i64 sp, .int .i64 m] [] (fun v _ => kk v) = (
    bif decide (mayE a b c sp = (160 : Int)) then
      kk
        (SV.tuple
          [SV.agg [SV.int IntKind.i64 (0 : Int), SV.int IntKind.i64 (0 : Int), SV.int IntKind.i64 (0 : Int)],
            SV.int IntKind.i64 (160 : Int)])
    else False) := by kernel_rfl
theorem t10_0 (a b c m : Int) (kk : SV → Prop) : evalF (C2 0) 64 Try.f10 [.agg [.int .i64 a, .int .i64 b, .int .i64 c], .int .i64 0, .int .i64 m] [] (fun v _ => kk v) = (
    bif decide (mayE a b c (0 : Int) = (0 : Int)) then
      bif m != (1 : Int) then
        bif m != (2 : Int) then
          kk
            (SV.tuple
              [SV.agg [SV.int IntKind.i64 (0 : Int), SV.int IntKind.i64 (0 : Int), SV.int IntKind.i64 (0 : Int)],
                SV.int IntKind.i64 (2 : Int)])
        else
          kk
            (SV.tuple
              [SV.agg
                  [SV.int IntKind.i64 (put (0 : Int) (0 : Int) (if m > a then m else a) a),
                    SV.int IntKind.i64 (put (0 : Int) (1 : Int) (if m > a then m else a) b),
                    SV.int IntKind.i64 (put (0 : Int) (2 : Int) (if m > a then m else a) c)],
                SV.int IntKind.i64 (0 : Int)])
      else
        kk
          (SV.tuple
            [SV.agg
                [SV.int IntKind.i64 (put (0 : Int) (0 : Int) (if m > a then m else a) a),
                  SV.int IntKind.i64 (put (0 : Int) (1 : Int) (if m > a then m else a) b),
                  SV.int IntKind.i64 (put (0 : Int) (2 : Int) (if m > a then m else a) c)],
              SV.int IntKind.i64 (0 : Int)])
    else False) := by kernel_rfl
theorem t10_1 (a b c m : Int) (kk : SV → Prop) : evalF (C2 0) 64 Try.f10 [.agg [.int .i64 a, .int .i64 b, .int .i64 c], .int .i64 1, .int .i64 m] [] (fun v _ => kk v) = (
    bif decide (mayE a b c (1 : Int) = (0 : Int)) then
      bif m != (1 : Int) then
        bif m != (2 : Int) then
          kk
            (SV.tuple
              [SV.agg [SV.int IntKind.i64 (0 : Int), SV.int IntKind.i64 (0 : Int), SV.int IntKind.i64 (0 : Int)],
                SV.int IntKind.i64 (2 : Int)])
        else
          kk
            (SV.tuple
              [SV.agg
                  [SV.int IntKind.i64 (put (1 : Int) (0 : Int) (if m > b then m else b) a),
                    SV.int IntKind.i64 (put (1 : Int) (1 : Int) (if m > b then m else b) b),
                    SV.int IntKind.i64 (put (1 : Int) (2 : Int) (if m > b then m else b) c)],
                SV.int IntKind.i64 (0 : Int)])
      else
        kk
          (SV.tuple
            [SV.agg
                [SV.int IntKind.i64 (put (1 : Int) (0 : Int) (if m > b then m else b) a),
                  SV.int IntKind.i64 (put (1 : Int) (1 : Int) (if m > b then m else b) b),
                  SV.int IntKind.i64 (put (1 : Int) (2 : Int) (if m > b then m else b) c)],
              SV.int IntKind.i64 (0 : Int)])
    else False) := by kernel_rfl
theorem t10_2 (a b c m : Int) (kk : SV → Prop) : evalF (C2 0) 64 Try.f10 [.agg [.int .i64 a, .int .i64 b, .int .i64 c], .int .i64 2, .int .i64 m] [] (fun v _ => kk v) = (
    bif decide (mayE a b c (2 : Int) = (0 : Int)) then
      bif m != (1 : Int) then
        bif m != (2 : Int) then
          kk
            (SV.tuple
              [SV.agg [SV.int IntKind.i64 (0 : Int), SV.int IntKind.i64 (0 : Int), SV.int IntKind.i64 (0 : Int)],
                SV.int IntKind.i64 (2 : Int)])
        else
          kk
            (SV.tuple
              [SV.agg
                  [SV.int IntKind.i64 (put (2 : Int) (0 : Int) (if m > c then m else c) a),
                    SV.int IntKind.i64 (put (2 : Int) (1 : Int) (if m > c then m else c) b),
                    SV.int IntKind.i64 (put (2 : Int) (2 : Int) (if m > c then m else c) c)],
                SV.int IntKind.i64 (0 : Int)])
      else
        kk
          (SV.tuple
            [SV.agg
                [SV.int IntKind.i64 (put (2 : Int) (0 : Int) (if m > c then m else c) a),
                  SV.int IntKind.i64 (put (2 : Int) (1 : Int) (if m > c then m else c) b),
                  SV.int IntKind.i64 (put (2 : Int) (2 : Int) (if m > c then m else c) c)],
              SV.int IntKind.i64 (0 : Int)])
    else False) := by kernel_rfl
theorem t10e2 (a b c sp m : Int) (kk : SV → Prop) : evalF (C2 2) 64 Try.f10 [.agg [.int .i64 a, .int .i64 b, .int .i64 c], .int .i64 sp, .int .i64 m] [] (fun v _ => kk v) = (
    bif decide (mayE a b c sp = (2 : Int)) then
      kk
        (SV.tuple
          [SV.agg [SV.int IntKind.i64 (0 : Int), SV.int IntKind.i64 (0 : Int), SV.int IntKind.i64 (0 : Int)],
            SV.int IntKind.i64 (2 : Int)])
    else False) := by kernel_rfl
theorem t10e160 (a b c sp m : Int) (kk : SV → Prop) : evalF (C2 160) 64 Try.f10 [.agg [.int .i64 a, .int .i64 b, .int .i64 c], .int .i64 sp, .int .i64 m] [] (fun v _ => kk v) = (
    bif decide (mayE a b c sp = (160 : Int)) then
      kk
        (SV.tuple
          [SV.agg [SV.int IntKind.i64 (0 : Int), SV.int IntKind.i64 (0 : Int), SV.int IntKind.i64 (0 : Int)],
            SV.int IntKind.i64 (160 : Int)])
    else False) := by kernel_rfl
theorem t12_0 (a b c : Int) (kk : SV → Prop) : evalF (C2 0) 64 Try.f12 [.agg [.int .i64 a, .int .i64 b, .int .i64 c], .int .i64 0] [] (fun v _ => kk v) = (
    bif decide (mayE a b c (0 : Int) = (0 : Int)) then
      bif a == (0 : Int) then
        kk
          (SV.tuple
            [SV.agg [SV.int IntKind.i64 (0 : Int), SV.int IntKind.i64 (0 : Int), SV.int IntKind.i64 (0 : Int)],
              SV.int IntKind.i64 (5 : Int)])
      else
        kk
          (SV.tuple
            [SV.agg
                [SV.int IntKind.i64 (put (0 : Int) (0 : Int) (IntKind.i64.wrap (a - (1 : Int))) a),
                  SV.int IntKind.i64 (put (0 : Int) (1 : Int) (IntKind.i64.wrap (a - (1 : Int))) b),
                  SV.int IntKind.i64 (put (0 : Int) (2 : Int) (IntKind.i64.wrap (a - (1 : Int))) c)],
              SV.int IntKind.i64 (0 : Int)])
    else False) := by kernel_rfl
theorem t12_1 (a b c : Int) (kk : SV → Prop) : evalF (C2 0) 64 Try.f12 [.agg [.int .i64 a, .int .i64 b, .int .i64 c], .int .i64 1] [] (fun v _ => kk v) = (
    bif decide (mayE a b c (1 : Int) = (0 : Int)) then
      bif b == (0 : Int) then
        kk
          (SV.tuple
            [SV.agg [SV.int IntKind.i64 (0 : Int), SV.int IntKind.i64 (0 : Int), SV.int IntKind.i64 (0 : Int)],
              SV.int IntKind.i64 (5 : Int)])
      else
        kk
          (SV.tuple
            [SV.agg
                [SV.int IntKind.i64 (put (1 : Int) (0 : Int) (IntKind.i64.wrap (b - (1 : Int))) a),
                  SV.int IntKind.i64 (put (1 : Int) (1 : Int) (IntKind.i64.wrap (b - (1 : Int))) b),
                  SV.int IntKind.i64 (put (1 : Int) (2 : Int) (IntKind.i64.wrap (b - (1 : Int))) c)],
              SV.int IntKind.i64 (0 : Int)])
    else False) := by kernel_rfl
theorem t12_2 (a b c : Int) (kk : SV → Prop) : evalF (C2 0) 64 Try.f12 [.agg [.int .i64 a, .int .i64 b, .int .i64 c], .int .i64 2] [] (fun v _ => kk v) = (
    bif decide (mayE a b c (2 : Int) = (0 : Int)) then
      bif c == (0 : Int) then
        kk
          (SV.tuple
            [SV.agg [SV.int IntKind.i64 (0 : Int), SV.int IntKind.i64 (0 : Int), SV.int IntKind.i64 (0 : Int)],
              SV.int IntKind.i64 (5 : Int)])
      else
        kk
          (SV.tuple
            [SV.agg
                [SV.int IntKind.i64 (put (2 : Int) (0 : Int) (IntKind.i64.wrap (c - (1 : Int))) a),
                  SV.int IntKind.i64 (put (2 : Int) (1 : Int) (IntKind.i64.wrap (c - (1 : Int))) b),
                  SV.int IntKind.i64 (put (2 : Int) (2 : Int) (IntKind.i64.wrap (c - (1 : Int))) c)],
              SV.int IntKind.i64 (0 : Int)])
    else False) := by kernel_rfl
theorem t12e2 (a b c sp : Int) (kk : SV → Prop) : evalF (C2 2) 64 Try.f12 [.agg [.int .i64 a, .int .i64 b, .int .i64 c], .int .i64 sp] [] (fun v _ => kk v) = (
    bif decide (mayE a b c sp = (2 : Int)) then
      kk
        (SV.tuple
          [SV.agg [SV.int IntKind.i64 (0 : Int), SV.int IntKind.i64 (0 : Int), SV.int IntKind.i64 (0 : Int)],
            SV.int IntKind.i64 (2 : Int)])
    else False) := by kernel_rfl
theorem t12e160 (a b c sp : Int) (kk : SV → Prop) : evalF (C2 160) 64 Try.f12 [.agg [.int .i64 a, .int .i64 b, .int .i64 c], .int .i64 sp] [] (fun v _ => kk v) = (
    bif decide (mayE a b c sp = (160 : Int)) then
      kk
        (SV.tuple
          [SV.agg [SV.int IntKind.i64 (0 : Int), SV.int IntKind.i64 (0 : Int), SV.int IntKind.i64 (0 : Int)],
            SV.int IntKind.i64 (160 : Int)])
    else False) := by kernel_rfl
theorem t13_0 (a b c : Int) (kk : SV → Prop) : evalF (C2 0) 64 Try.f13 [.agg [.int .i64 a, .int .i64 b, .int .i64 c], .int .i64 0] [] (fun v _ => kk v) = (
    bif decide (mayE a b c (0 : Int) = (0 : Int)) then
      bif a == (0 : Int) then
        kk
          (SV.tuple
            [SV.agg [SV.int IntKind.i64 (0 : Int), SV.int IntKind.i64 (0 : Int), SV.int IntKind.i64 (0 : Int)],
              SV.int IntKind.i64 (5 : Int)])
      else
        kk
          (SV.tuple
            [SV.agg
                [SV.int IntKind.i64 (put (0 : Int) (0 : Int) (IntKind.i64.wrap (a - (1 : Int))) a),
                  SV.int IntKind.i64 (put (0 : Int) (1 : Int) (IntKind.i64.wrap (a - (1 : Int))) b),
                  SV.int IntKind.i64 (put (0 : Int) (2 : Int) (IntKind.i64.wrap (a - (1 : Int))) c)],
              SV.int IntKind.i64 (0 : Int)])
    else False) := by kernel_rfl
theorem t13_1 (a b c : Int) (kk : SV → Prop) : evalF (C2 0) 64 Try.f13 [.agg [.int .i64 a, .int .i64 b, .int .i64 c], .int .i64 1] [] (fun v _ => kk v) = (
    bif decide (mayE a b c (1 : Int) = (0 : Int)) then
      bif b == (0 : Int) then
        kk
          (SV.tuple
            [SV.agg [SV.int IntKind.i64 (0 : Int), SV.int IntKind.i64 (0 : Int), SV.int IntKind.i64 (0 : Int)],
              SV.int IntKind.i64 (5 : Int)])
      else
        kk
          (SV.tuple
            [SV.agg
                [SV.int IntKind.i64 (put (1 : Int) (0 : Int) (IntKind.i64.wrap (b - (1 : Int))) a),
                  SV.int IntKind.i64 (put (1 : Int) (1 : Int) (IntKind.i64.wrap (b - (1 : Int))) b),
                  SV.int IntKind.i64 (put (1 : Int) (2 : Int) (IntKind.i64.wrap (b - (1 : Int))) c)],
              SV.int IntKind.i64 (0 : Int)])
    else False) := by kernel_rfl
theorem t13_2 (a b c : Int) (kk : SV → Prop) : evalF (C2 0) 64 Try.f13 [.agg [.int .i64 a, .int .i64 b, .int .i64 c], .int .i64 2] [] (fun v _ => kk v) = (
    bif decide (mayE a b c (2 : Int) = (0 : Int)) then
      bif c == (0 : Int) then
        kk
          (SV.tuple
            [SV.agg [SV.int IntKind.i64 (0 : Int), SV.int IntKind.i64 (0 : Int), SV.int IntKind.i64 (0 : Int)],
              SV.int IntKind.i64 (5 : Int)])
      else
        kk
          (SV.tuple
            [SV.agg
                [SV.int IntKind.i64 (put (2 : Int) (0 : Int) (IntKind.i64.wrap (c - (1 : Int))) a),
                  SV.int IntKind.i64 (put (2 : Int) (1 : Int) (IntKind.i64.wrap (c - (1 : Int))) b),
                  SV.int IntKind.i64 (put (2 : Int) (2 : Int) (IntKind.i64.wrap (c - (1 : Int))) c)],
              SV.int IntKind.i64 (0 : Int)])
    else False) := by kernel_rfl
theorem t13e2 (a b c sp : Int) (kk : SV → Prop) : evalF (C2 2) 64 Try.f13 [.agg [.int .i64 a, .int .i64 b, .int .i64 c], .int .i64 sp] [] (fun v _ => kk v) = (
    bif decide (mayE a b c sp = (2 : Int)) then
      kk
        (SV.tuple
          [SV.agg [SV.int IntKind.i64 (0 : Int), SV.int IntKind.i64 (0 : Int), SV.int IntKind.i64 (0 : Int)],
            SV.int IntKind.i64 (2 : Int)])
    else False) := by kernel_rfl
theorem t13e160 (a b c sp : Int) (kk : SV → Prop) : evalF (C2 160) 64 Try.f13 [.agg [.int .i64 a, .int .i64 b, .int .i64 c], .int .i64 sp] [] (fun v _ => kk v) = (
    bif decide (mayE a b c sp = (160 : Int)) then
      kk
        (SV.tuple
          [SV.agg [SV.int IntKind.i64 (0 : Int), SV.int IntKind.i64 (0 : Int), SV.int IntKind.i64 (0 : Int)],
            SV.int IntKind.i64 (160 : Int)])
    else False) := by kernel_rfl
theorem t14_0 (a b c : Int) (kk : SV → Prop) : evalF (C2 0) 64 Try.f14 [.agg [.int .i64 a, .int .i64 b, .int .i64 c], .int .i64 0] [] (fun v _ => kk v) = (
    bif decide (mayE a b c (0 : Int) = (0 : Int)) then
      kk
        (SV.tuple
          [SV.agg
              [SV.int IntKind.i64 (put (0 : Int) (0 : Int) (0 : Int) a),
                SV.int IntKind.i64 (put (0 : Int) (1 : Int) (0 : Int) b),
                SV.int IntKind.i64 (put (0 : Int) (2 : Int) (0 : Int) c)],
            SV.int IntKind.i64 (0 : Int)])
    else False) := by kernel_rfl
theorem t14_1 (a b c : Int) (kk : SV → Prop) : evalF (C2 0) 64 Try.f14 [.agg [.int .i64 a, .int .i64 b, .int .i64 c], .int .i64 1] [] (fun v _ => kk v) = (
    bif decide (mayE a b c (1 : Int) = (0 : Int)) then
      kk
        (SV.tuple
          [SV.agg
              [SV.int IntKind.i64 (put (1 : Int) (0 : Int) (0 : Int) a),
                SV.int IntKind.i64 (put (1 : Int) (1 : Int) (0 : Int) b),
                SV.int IntKind.i64 (put (1 : Int) (2 : Int) (0 : Int) c)],
            SV.int IntKind.i64 (0 : Int)])
    else False) := by kernel_rfl
theorem t14_2 (a b c : Int) (kk : SV → Prop) : evalF (C2 0) 64 Try.f14 [.agg [.int .i64 a, .int .i64 b, .int .i64 c], .int .i64 2] [] (fun v _ => kk v) = (
    bif decide (mayE a b c (2 : Int) = (0 : Int)) then
      kk
        (SV.tuple
          [SV.agg
              [SV.int IntKind.i64 (put (2 : Int) (0 : Int) (0 : Int) a),
                SV.int IntKind.i64 (put (2 : Int) (1 : Int) (0 : Int) b),
                SV.int IntKind.i64 (put (2 : Int) (2 : Int) (0 : Int) c)],
            SV.int IntKind.i64 (0 : Int)])
    else False) := by kernel_rfl
theorem t14e2 (a b c sp : Int) (kk : SV → Prop) : evalF (C2 2) 64 Try.f14 [.agg [.int .i64 a, .int .i64 b, .int .i64 c], .int .i64 sp] [] (fun v _ => kk v) = (
    bif decide (mayE a b c sp = (2 : Int)) then
      kk
        (SV.tuple
          [SV.agg [SV.int IntKind.i64 (0 : Int), SV.int IntKind.i64 (0 : Int), SV.int IntKind.i64 (0 : Int)],
            SV.int IntKind.i64 (2 : Int)])
    else False) := by kernel_rfl
theorem t14e160 (a b c sp : Int) (kk : SV → Prop) : evalF (C2 160) 64 Try.f14 [.agg [.int .i64 a, .int .i64 b, .int .i64 c], .int .i64 sp] [] (fun v _ => kk v) = (
    bif decide (mayE a b c sp = (160 : Int)) then
      kk
        (SV.tuple
          [SV.agg [SV.int IntKind.i64 (0 : Int), SV.int IntKind.i64 (0 : Int), SV.int IntKind.i64 (0 : Int)],
            SV.int IntKind.i64 (160 : Int)])
    else False) := by kernel_rfl
theorem t15_0 (a b c : Int) (kk : SV → Prop) : evalF (C2 0) 64 Try.f15 [.agg [.int .i64 a, .int .i64 b, .int .i64 c], .int .i64 0] [] (fun v _ => kk v) = (
    bif decide (mayE a b c (0 : Int) = (0 : Int)) then
      kk
        (SV.tuple
          [SV.agg
              [SV.int IntKind.i64 (put (0 : Int) (0 : Int) (0 : Int) a),
                SV.int IntKind.i64 (put (0 : Int) (1 : Int) (0 : Int) b),
                SV.int IntKind.i64 (put (0 : Int) (2 : Int) (0 : Int) c)],
            SV.int IntKind.i64 (0 : Int)])
    else False) := by kernel_rfl
theorem t15_1 (a b c : Int) (kk : SV → Prop) : evalF (C2 0) 64 Try.f15 [.agg [.int .i64 a, .int .i64 b, .int .i64 c], .int .i64 1] [] (fun v _ => kk v) = (
    bif decide (mayE a b c (1 : Int) = (0 : Int)) then
      kk
        (SV.tuple
          [SV.agg
              [SV.int IntKind.i64 (put (1 : Int) (0 : Int) (0 : Int) a),
                SV.int IntKind.i64 (put (1 : Int) (1 : Int) (0 : Int) b),
                SV.int IntKind.i64 (put (1 : Int) (2 : Int) (0 : Int) c)],
            SV.int IntKind.i64 (0 : Int)])
    else False) := by kernel_rfl
theorem t15_2 (a b c : Int) (kk : SV → Prop) : evalF (C2 0) 64 Try.f15 [.agg [.int .i64 a, .int .i64 b, .int .i64 c], .int .i64 2] [] (fun v _ => kk v) = (
    bif decide (mayE a b c (2 : Int) = (0 : Int)) then
      kk
        (SV.tuple
          [SV.agg
              [SV.int IntKind.i64 (put (2 : Int) (0 : Int) (0 : Int) a),
                SV.int IntKind.i64 (put (2 : Int) (1 : Int) (0 : Int) b),
                SV.int IntKind.i64 (put (2 : Int) (2 : Int) (0 : Int) c)],
            SV.int IntKind.i64 (0 : Int)])
    else False) := by kernel_rfl
theorem t15e2 (a b c sp : Int) (kk : SV → Prop) : evalF (C2 2) 64 Try.f15 [.agg [.int .i64 a, .int .i64 b, .int .i64 c], .int .i64 sp] [] (fun v _ => kk v) = (
    bif decide (mayE a b c sp = (2 : Int)) then
      kk
        (SV.tuple
          [SV.agg [SV.int IntKind.i64 (0 : Int), SV.int IntKind.i64 (0 : Int), SV.int IntKind.i64 (0 : Int)],
            SV.int IntKind.i64 (2 : Int)])
    else False) := by kernel_rfl
theorem t15e160 (a b c sp : Int) (kk : SV → Prop) : evalF (C2 160) 64 Try.f15 [.agg [.int .i64 a, .int .i64 b, .int .i64 c], .int .i64 sp] [] (fun v _ => kk v) = (
    bif decide (mayE a b c sp = (160 : Int)) then
      kk
        (SV.tuple
          [SV.agg [SV.int IntKind.i64 (0 : Int), SV.int IntKind.i64 (0 : Int), SV.int IntKind.i64 (0 : Int)],
            SV.int IntKind.i64 (160 : Int)])
    else False) := by kernel_rfl
end Go.Proofs.Ytfhkmagpgbcnjaa
