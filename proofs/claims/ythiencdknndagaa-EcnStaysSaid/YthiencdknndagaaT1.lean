/-
  What functions of the program come to, way by way: printed by a program, held by the kernel.
-/
import Derived.Test.YthiencdknndagaaX3
namespace Go.Proofs.Ythiencdknndagaa
open Go.RowKit
set_option maxRecDepth 100000

theorem t16 (i n : Int) (kk : SV → Prop) : evalF C0 64 Try.f16 [.int .i64 i, .int .i64 n] [] (fun v _ => kk v) = (
    bif n == (0 : Int) then False
    else
      bif decide (i.tmod n < (0 : Int)) then kk (SV.int IntKind.i64 (IntKind.i64.wrap (i.tmod n + n)))
      else kk (SV.int IntKind.i64 (i.tmod n))) := by kernel_rfl
theorem t21 (n : Int) (kk : SV → Prop) : evalF C0 64 Try.f21 [.int .i64 n] [] (fun v _ => kk v) = (
    bif decide ((0 : Int) ≤ n) then kk (SV.bool (decide (n ≤ (9007199254740991 : Int)))) else kk (SV.bool false)) := by kernel_rfl
theorem t22 (a b c : Int) (kk : SV → Prop) : evalF C1 64 Try.f22 [.agg [.int .i64 a, .int .i64 b, .int .i64 c]] [] (fun v _ => kk v) = (
    bif isN a then bif isN b then kk (SV.bool (isN c)) else kk (SV.bool false) else kk (SV.bool false)) := by kernel_rfl
theorem t13 (s a b c : Int) (f : Bool) (kk : SV → Prop) : evalF C1 64 Try.f13 [cntS s a b c f] [] (fun v _ => kk v) = (
    bif !areN [s, a, b, c] then kk (SV.int IntKind.i64 (2 : Int)) else kk (SV.int IntKind.i64 (0 : Int))) := by kernel_rfl
theorem t14 (s a b c : Int) (f : Bool) (kk : SV → Prop) : evalF C1a 64 Try.f14 [cntS s a b c f] [] (fun v _ => kk v) = (
    bif !isN s then kk (SV.int IntKind.i64 (2 : Int))
    else bif !(isN a && isN b && isN c) then kk (SV.int IntKind.i64 (2 : Int)) else kk (SV.int IntKind.i64 (0 : Int))) := by kernel_rfl
theorem t10 (s a b c : Int) (f : Bool) (kk : SV → Prop) : evalF C0 64 Try.f10 [cntS s a b c f] [] (fun v _ => kk v) = (
    kk (SV.agg [SV.int IntKind.i64 s, SV.int IntKind.i64 a, SV.int IntKind.i64 b, SV.int IntKind.i64 c, SV.bool f])) := by kernel_rfl
theorem t19 (a b c : Int) (kk : SV → Prop) : evalF C0 64 Try.f19 [.agg [.int .i64 a, .int .i64 b, .int .i64 c]] [] (fun v _ => kk v) = (
    kk (SV.int IntKind.i64 (IntKind.i64.wrap (a + c)))) := by kernel_rfl
theorem t17 (a b c : Int) (kk : SV → Prop) : evalF C0 64 Try.f17 [.int .i64 a, .int .i64 b, .int .i64 c] [] (fun v _ => kk v) = (
    kk
      (SV.agg
        [SV.int IntKind.i64 (0 : Int), SV.nilSlice, SV.bool true, SV.int IntKind.i64 a, SV.int IntKind.i64 b,
          SV.int IntKind.i64 c])) := by kernel_rfl
theorem t20 (s a b c : Int) (f : Bool) (x y z newly : Int) (kk : SV → Prop) : evalF C2 64 Try.f20 [cntS s a b c f, .agg [.int .i64 x, .int .i64 y, .int .i64 z], .int .i64 newly] [] (fun v _ => kk v) = (
    kk
      (SV.bool
        (anyB
          [decide (x < a), y != b, decide (z < c), decide (s < IntKind.i64.wrap (x + z)),
            decide (IntKind.i64.wrap (IntKind.i64.wrap (x + z) - IntKind.i64.wrap (a + c)) < newly)]))) := by kernel_rfl
theorem t23 (s a b c : Int) (f : Bool) (d : Int) (q : Value) (m : Bool) (x y z newly : Int) (kk : SV → Prop) : evalF C2 64 Try.f23 [cntS s a b c f, .agg [.int .i64 d, .raw q, .bool m, .int .i64 x, .int .i64 y, .int .i64 z], .int .i64 newly] [] (fun v _ => kk v) = (
    bif !m then kk (SV.bool (decide ((0 : Int) < newly)))
    else
      bif decide (x < a) then kk (SV.bool true)
      else
        bif decide (y < b) then kk (SV.bool true)
        else
          bif decide (z < c) then kk (SV.bool true)
          else
            bif decide (b < y) then kk (SV.bool true)
            else
              bif decide (s < IntKind.i64.wrap (x + z)) then kk (SV.bool true)
              else kk (SV.bool (decide (IntKind.i64.wrap (IntKind.i64.wrap (IntKind.i64.wrap (x + z) - a) - c) < newly)))) := by kernel_rfl
theorem t23n (s a b c : Int) (f : Bool) (d : Int) (m : Bool) (x y z newly : Int) (kk : SV → Prop) : evalF C2 64 Try.f23 [cntS s a b c f, .agg [.int .i64 d, .nilSlice, .bool m, .int .i64 x, .int .i64 y, .int .i64 z], .int .i64 newly] [] (fun v _ => kk v) = (
    bif !m then kk (SV.bool (decide ((0 : Int) < newly)))
    else
      bif decide (x < a) then kk (SV.bool true)
      else
        bif decide (y < b) then kk (SV.bool true)
        else
          bif decide (z < c) then kk (SV.bool true)
          else
            bif decide (b < y) then kk (SV.bool true)
            else
              bif decide (s < IntKind.i64.wrap (x + z)) then kk (SV.bool true)
              else kk (SV.bool (decide (IntKind.i64.wrap (IntKind.i64.wrap (IntKind.i64.wrap (x + z) - a) - c) < newly)))) := by kernel_rfl
theorem t8 (s a b c : Int) (f : Bool) (kk : SV → Prop) : evalF C2 64 Try.f8 [cntS s a b c f] [] (fun v _ => kk v) = (
    bif chkE s a b c != (0 : Int) then
      kk
        (SV.tuple
          [SV.agg
              [SV.int IntKind.i64 (0 : Int), SV.int IntKind.i64 (0 : Int), SV.int IntKind.i64 (0 : Int),
                SV.int IntKind.i64 (0 : Int), SV.bool false],
            SV.int IntKind.i64 (chkE s a b c)])
    else
      bif s == (9007199254740991 : Int) then
        kk
          (SV.tuple
            [SV.agg
                [SV.int IntKind.i64 (0 : Int), SV.int IntKind.i64 (0 : Int), SV.int IntKind.i64 (0 : Int),
                  SV.int IntKind.i64 (0 : Int), SV.bool false],
              SV.int IntKind.i64 (9 : Int)])
      else
        kk
          (SV.tuple
            [SV.agg
                [SV.int IntKind.i64 (IntKind.i64.wrap (s + (1 : Int))), SV.int IntKind.i64 a, SV.int IntKind.i64 b,
                  SV.int IntKind.i64 c, SV.bool f],
              SV.int IntKind.i64 (0 : Int)])) := by kernel_rfl
theorem t9 (s a b c : Int) (f : Bool) (kk : SV → Prop) : evalF C2 64 Try.f9 [cntS s a b c f] [] (fun v _ => kk v) = (
    bif chkE s a b c != (0 : Int) then
      kk
        (SV.tuple
          [SV.agg
              [SV.int IntKind.i64 (0 : Int), SV.int IntKind.i64 (0 : Int), SV.int IntKind.i64 (0 : Int),
                SV.int IntKind.i64 (0 : Int), SV.bool false],
            SV.int IntKind.i64 (chkE s a b c)])
    else
      bif s == (9007199254740991 : Int) then
        kk
          (SV.tuple
            [SV.agg
                [SV.int IntKind.i64 (0 : Int), SV.int IntKind.i64 (0 : Int), SV.int IntKind.i64 (0 : Int),
                  SV.int IntKind.i64 (0 : Int), SV.bool false],
              SV.int IntKind.i64 (9 : Int)])
      else
        kk
          (SV.tuple
            [SV.agg
                [SV.int IntKind.i64 (IntKind.i64.wrap (s + (1 : Int))), SV.int IntKind.i64 a, SV.int IntKind.i64 b,
                  SV.int IntKind.i64 c, SV.bool f],
              SV.int IntKind.i64 (0 : Int)])) := by kernel_rfl
theorem t11 (s a b c : Int) (f : Bool) (d : Int) (q : Value) (m : Bool) (x y z newly : Int) (kk : SV → Prop) : evalF C3 64 Try.f11 [cntS s a b c f, .agg [.int .i64 d, .raw q, .bool m, .int .i64 x, .int .i64 y, .int .i64 z], .int .i64 newly] [] (fun v _ => kk v) = (
    bif chkE s a b c != (0 : Int) then
      kk
        (SV.tuple
          [SV.agg
              [SV.int IntKind.i64 (0 : Int), SV.int IntKind.i64 (0 : Int), SV.int IntKind.i64 (0 : Int),
                SV.int IntKind.i64 (0 : Int), SV.bool false],
            SV.bool false, SV.int IntKind.i64 (chkE s a b c)])
    else
      bif !areN [newly, x, y, z] then
        kk
          (SV.tuple
            [SV.agg
                [SV.int IntKind.i64 (0 : Int), SV.int IntKind.i64 (0 : Int), SV.int IntKind.i64 (0 : Int),
                  SV.int IntKind.i64 (0 : Int), SV.bool false],
              SV.bool false, SV.int IntKind.i64 (9 : Int)])
      else
        bif f then
          kk
            (SV.tuple
              [SV.agg [SV.int IntKind.i64 s, SV.int IntKind.i64 a, SV.int IntKind.i64 b, SV.int IntKind.i64 c, SV.bool f],
                SV.bool false, SV.int IntKind.i64 (0 : Int)])
        else
          bif !m then
            kk
              (SV.tuple
                [SV.agg
                    [SV.int IntKind.i64 s, SV.int IntKind.i64 a, SV.int IntKind.i64 b, SV.int IntKind.i64 c,
                      SV.bool (decide ((0 : Int) < newly))],
                  SV.bool false, SV.int IntKind.i64 (0 : Int)])
          else
            bif x == a && (y == b && (z == c && true)) then
              bif newly == (0 : Int) then
                bif decide (IntKind.i64.wrap (a + c) ≤ s) then
                  kk
                    (SV.tuple
                      [SV.agg
                          [SV.int IntKind.i64 s, SV.int IntKind.i64 a, SV.int IntKind.i64 b, SV.int IntKind.i64 c,
                            SV.bool f],
                        SV.bool false, SV.int IntKind.i64 (0 : Int)])
                else
                  bif failW s a b c x y z newly then
                    kk
                      (SV.tuple
                        [SV.agg
                            [SV.int IntKind.i64 s, SV.int IntKind.i64 a, SV.int IntKind.i64 b, SV.int IntKind.i64 c,
                              SV.bool true],
                          SV.bool false, SV.int IntKind.i64 (0 : Int)])
                  else
                    kk
                      (SV.tuple
                        [SV.agg
                            [SV.int IntKind.i64 s, SV.int IntKind.i64 x, SV.int IntKind.i64 y, SV.int IntKind.i64 z,
                              SV.bool f],
                          SV.bool (decide (c < z)), SV.int IntKind.i64 (0 : Int)])
              else
                bif failW s a b c x y z newly then
                  kk
                    (SV.tuple
                      [SV.agg
                          [SV.int IntKind.i64 s, SV.int IntKind.i64 a, SV.int IntKind.i64 b, SV.int IntKind.i64 c,
                            SV.bool true],
                        SV.bool false, SV.int IntKind.i64 (0 : Int)])
                else
                  kk
                    (SV.tuple
                      [SV.agg
                          [SV.int IntKind.i64 s, SV.int IntKind.i64 x, SV.int IntKind.i64 y, SV.int IntKind.i64 z,
                            SV.bool f],
                        SV.bool (decide (c < z)), SV.int IntKind.i64 (0 : Int)])
            else
              bif failW s a b c x y z newly then
                kk
                  (SV.tuple
                    [SV.agg
                        [SV.int IntKind.i64 s, SV.int IntKind.i64 a, SV.int IntKind.i64 b, SV.int IntKind.i64 c,
                          SV.bool true],
                      SV.bool false, SV.int IntKind.i64 (0 : Int)])
              else
                kk
                  (SV.tuple
                    [SV.agg
                        [SV.int IntKind.i64 s, SV.int IntKind.i64 x, SV.int IntKind.i64 y, SV.int IntKind.i64 z, SV.bool f],
                      SV.bool (decide (c < z)), SV.int IntKind.i64 (0 : Int)])) := by kernel_rfl
theorem t11n (s a b c : Int) (f : Bool) (d : Int) (m : Bool) (x y z newly : Int) (kk : SV → Prop) : evalF C3 64 Try.f11 [cntS s a b c f, .agg [.int .i64 d, .nilSlice, .bool m, .int .i64 x, .int .i64 y, .int .i64 z], .int .i64 newly] [] (fun v _ => kk v) = (
    bif chkE s a b c != (0 : Int) then
      kk
        (SV.tuple
          [SV.agg
              [SV.int IntKind.i64 (0 : Int), SV.int IntKind.i64 (0 : Int), SV.int IntKind.i64 (0 : Int),
                SV.int IntKind.i64 (0 : Int), SV.bool false],
            SV.bool false, SV.int IntKind.i64 (chkE s a b c)])
    else
      bif !areN [newly, x, y, z] then
        kk
          (SV.tuple
            [SV.agg
                [SV.int IntKind.i64 (0 : Int), SV.int IntKind.i64 (0 : Int), SV.int IntKind.i64 (0 : Int),
                  SV.int IntKind.i64 (0 : Int), SV.bool false],
              SV.bool false, SV.int IntKind.i64 (9 : Int)])
      else
        bif f then
          kk
            (SV.tuple
              [SV.agg [SV.int IntKind.i64 s, SV.int IntKind.i64 a, SV.int IntKind.i64 b, SV.int IntKind.i64 c, SV.bool f],
                SV.bool false, SV.int IntKind.i64 (0 : Int)])
        else
          bif !m then
            kk
              (SV.tuple
                [SV.agg
                    [SV.int IntKind.i64 s, SV.int IntKind.i64 a, SV.int IntKind.i64 b, SV.int IntKind.i64 c,
                      SV.bool (decide ((0 : Int) < newly))],
                  SV.bool false, SV.int IntKind.i64 (0 : Int)])
          else
            bif x == a && (y == b && (z == c && true)) then
              bif newly == (0 : Int) then
                bif decide (IntKind.i64.wrap (a + c) ≤ s) then
                  kk
                    (SV.tuple
                      [SV.agg
                          [SV.int IntKind.i64 s, SV.int IntKind.i64 a, SV.int IntKind.i64 b, SV.int IntKind.i64 c,
                            SV.bool f],
                        SV.bool false, SV.int IntKind.i64 (0 : Int)])
                else
                  bif failW s a b c x y z newly then
                    kk
                      (SV.tuple
                        [SV.agg
                            [SV.int IntKind.i64 s, SV.int IntKind.i64 a, SV.int IntKind.i64 b, SV.int IntKind.i64 c,
                              SV.bool true],
                          SV.bool false, SV.int IntKind.i64 (0 : Int)])
                  else
                    kk
                      (SV.tuple
                        [SV.agg
                            [SV.int IntKind.i64 s, SV.int IntKind.i64 x, SV.int IntKind.i64 y, SV.int IntKind.i64 z,
                              SV.bool f],
                          SV.bool (decide (c < z)), SV.int IntKind.i64 (0 : Int)])
              else
                bif failW s a b c x y z newly then
                  kk
                    (SV.tuple
                      [SV.agg
                          [SV.int IntKind.i64 s, SV.int IntKind.i64 a, SV.int IntKind.i64 b, SV.int IntKind.i64 c,
                            SV.bool true],
                        SV.bool false, SV.int IntKind.i64 (0 : Int)])
                else
                  kk
                    (SV.tuple
                      [SV.agg
                          [SV.int IntKind.i64 s, SV.int IntKind.i64 x, SV.int IntKind.i64 y, SV.int IntKind.i64 z,
                            SV.bool f],
                        SV.bool (decide (c < z)), SV.int IntKind.i64 (0 : Int)])
            else
              bif failW s a b c x y z newly then
                kk
                  (SV.tuple
                    [SV.agg
                        [SV.int IntKind.i64 s, SV.int IntKind.i64 a, SV.int IntKind.i64 b, SV.int IntKind.i64 c,
                          SV.bool true],
                      SV.bool false, SV.int IntKind.i64 (0 : Int)])
              else
                kk
                  (SV.tuple
                    [SV.agg
                        [SV.int IntKind.i64 s, SV.int IntKind.i64 x, SV.int IntKind.i64 y, SV.int IntKind.i64 z, SV.bool f],
                      SV.bool (decide (c < z)), SV.int IntKind.i64 (0 : Int)])) := by kernel_rfl
theorem t12 (s a b c : Int) (f : Bool) (d : Int) (q : Value) (m : Bool) (x y z newly : Int) (kk : SV → Prop) : evalF C3 64 Try.f12 [cntS s a b c f, .agg [.int .i64 d, .raw q, .bool m, .int .i64 x, .int .i64 y, .int .i64 z], .int .i64 newly] [] (fun v _ => kk v) = (
    bif chkE s a b c != (0 : Int) then
      kk
        (SV.tuple
          [SV.agg
              [SV.int IntKind.i64 (0 : Int), SV.int IntKind.i64 (0 : Int), SV.int IntKind.i64 (0 : Int),
                SV.int IntKind.i64 (0 : Int), SV.bool false],
            SV.bool false, SV.int IntKind.i64 (chkE s a b c)])
    else
      bif !isN newly then
        kk
          (SV.tuple
            [SV.agg
                [SV.int IntKind.i64 (0 : Int), SV.int IntKind.i64 (0 : Int), SV.int IntKind.i64 (0 : Int),
                  SV.int IntKind.i64 (0 : Int), SV.bool false],
              SV.bool false, SV.int IntKind.i64 (9 : Int)])
      else
        bif !(isN x && isN y && isN z) then
          kk
            (SV.tuple
              [SV.agg
                  [SV.int IntKind.i64 (0 : Int), SV.int IntKind.i64 (0 : Int), SV.int IntKind.i64 (0 : Int),
                    SV.int IntKind.i64 (0 : Int), SV.bool false],
                SV.bool false, SV.int IntKind.i64 (9 : Int)])
        else
          bif f then
            kk
              (SV.tuple
                [SV.agg [SV.int IntKind.i64 s, SV.int IntKind.i64 a, SV.int IntKind.i64 b, SV.int IntKind.i64 c, SV.bool f],
                  SV.bool false, SV.int IntKind.i64 (0 : Int)])
          else
            bif failR m s a b c x y z newly then
              kk
                (SV.tuple
                  [SV.agg
                      [SV.int IntKind.i64 s, SV.int IntKind.i64 a, SV.int IntKind.i64 b, SV.int IntKind.i64 c,
                        SV.bool true],
                    SV.bool false, SV.int IntKind.i64 (0 : Int)])
            else
              bif m then
                kk
                  (SV.tuple
                    [SV.agg
                        [SV.int IntKind.i64 s, SV.int IntKind.i64 x, SV.int IntKind.i64 y, SV.int IntKind.i64 z, SV.bool f],
                      SV.bool (decide (c < z)), SV.int IntKind.i64 (0 : Int)])
              else
                kk
                  (SV.tuple
                    [SV.agg
                        [SV.int IntKind.i64 s, SV.int IntKind.i64 a, SV.int IntKind.i64 b, SV.int IntKind.i64 c, SV.bool f],
                      SV.bool false, SV.int IntKind.i64 (0 : Int)])) := by kernel_rfl
theorem t12n (s a b c : Int) (f : Bool) (d : Int) (m : Bool) (x y z newly : Int) (kk : SV → Prop) : evalF C3 64 Try.f12 [cntS s a b c f, .agg [.int .i64 d, .nilSlice, .bool m, .int .i64 x, .int .i64 y, .int .i64 z], .int .i64 newly] [] (fun v _ => kk v) = (
    bif chkE s a b c != (0 : Int) then
      kk
        (SV.tuple
          [SV.agg
              [SV.int IntKind.i64 (0 : Int), SV.int IntKind.i64 (0 : Int), SV.int IntKind.i64 (0 : Int),
                SV.int IntKind.i64 (0 : Int), SV.bool false],
            SV.bool false, SV.int IntKind.i64 (chkE s a b c)])
    else
      bif !isN newly then
        kk
          (SV.tuple
            [SV.agg
                [SV.int IntKind.i64 (0 : Int), SV.int IntKind.i64 (0 : Int), SV.int IntKind.i64 (0 : Int),
                  SV.int IntKind.i64 (0 : Int), SV.bool false],
              SV.bool false, SV.int IntKind.i64 (9 : Int)])
      else
        bif !(isN x && isN y && isN z) then
          kk
            (SV.tuple
              [SV.agg
                  [SV.int IntKind.i64 (0 : Int), SV.int IntKind.i64 (0 : Int), SV.int IntKind.i64 (0 : Int),
                    SV.int IntKind.i64 (0 : Int), SV.bool false],
                SV.bool false, SV.int IntKind.i64 (9 : Int)])
        else
          bif f then
            kk
              (SV.tuple
                [SV.agg [SV.int IntKind.i64 s, SV.int IntKind.i64 a, SV.int IntKind.i64 b, SV.int IntKind.i64 c, SV.bool f],
                  SV.bool false, SV.int IntKind.i64 (0 : Int)])
          else
            bif failR m s a b c x y z newly then
              kk
                (SV.tuple
                  [SV.agg
                      [SV.int IntKind.i64 s, SV.int IntKind.i64 a, SV.int IntKind.i64 b, SV.int IntKind.i64 c,
                        SV.bool true],
                    SV.bool false, SV.int IntKind.i64 (0 : Int)])
            else
              bif m then
                kk
                  (SV.tuple
                    [SV.agg
                        [SV.int IntKind.i64 s, SV.int IntKind.i64 x, SV.int IntKind.i64 y, SV.int IntKind.i64 z, SV.bool f],
                      SV.bool (decide (c < z)), SV.int IntKind.i64 (0 : Int)])
              else
                kk
                  (SV.tuple
                    [SV.agg
                        [SV.int IntKind.i64 s, SV.int IntKind.i64 a, SV.int IntKind.i64 b, SV.int IntKind.i64 c, SV.bool f],
                      SV.bool false, SV.int IntKind.i64 (0 : Int)])) := by kernel_rfl
theorem t15  (kk : SV → Prop) : evalF C4 64 Try.f15 [] [] (fun v _ => kk v) = (
    kk (SV.bool true)) := by kernel_rfl
theorem t3 (s a b c : Int) (f : Bool) (d : Int) (q : Value) (m : Bool) (x y z newly : Int) (kk : SV → Prop) : evalF C5 64 Try.f3 [cntS s a b c f, .agg [.int .i64 d, .raw q, .bool m, .int .i64 x, .int .i64 y, .int .i64 z], .int .i64 newly] [] (fun v _ => kk v) = (
    bif chkE s a b c == chkE s a b c then
      bif
          zi (mE s a b c) (s + (1 : Int)) == zi (mE s a b c) (s + (1 : Int)) &&
            (zi (mE s a b c) a == zi (mE s a b c) a &&
                (zi (mE s a b c) b == zi (mE s a b c) b && (zi (mE s a b c) c == zi (mE s a b c) c && true)) &&
              (zb (mE s a b c) f == zb (mE s a b c) f && true)) then
        bif mE s a b c == mE s a b c then
          bif
              zi (aE s a b c x y z newly) s == zi (aE s a b c x y z newly) s &&
                (zi (aE s a b c x y z newly) (pk (aSee f m s a b c x y z newly) x a) ==
                      zi (aE s a b c x y z newly) (pk (aSee f m s a b c x y z newly) x a) &&
                    (zi (aE s a b c x y z newly) (pk (aSee f m s a b c x y z newly) y b) ==
                        zi (aE s a b c x y z newly) (pk (aSee f m s a b c x y z newly) y b) &&
                      (zi (aE s a b c x y z newly) (pk (aSee f m s a b c x y z newly) z c) ==
                          zi (aE s a b c x y z newly) (pk (aSee f m s a b c x y z newly) z c) &&
                        true)) &&
                  (zb (aE s a b c x y z newly) (aFail f m s a b c x y z newly) ==
                      zb (aE s a b c x y z newly) (aFail f m s a b c x y z newly) &&
                    true)) then
            bif
                zb (aE s a b c x y z newly) (aSee f m s a b c x y z newly && decide (c < z)) ==
                  zb (aE s a b c x y z newly) (aSee f m s a b c x y z newly && decide (c < z)) then
              bif aE s a b c x y z newly == aE s a b c x y z newly then kk (SV.bool true) else kk (SV.bool false)
            else kk (SV.bool false)
          else kk (SV.bool false)
        else kk (SV.bool false)
      else kk (SV.bool false)
    else kk (SV.bool false)) := by kernel_rfl
end Go.Proofs.Ythiencdknndagaa
