/-
  What functions of the program come to, way by way: printed by a program, held by the kernel.
-/
import Derived.Test.YtfoogfhcjnpokaaX2
namespace Go.Proofs.Ytfoogfhcjnpokaa
open Go.RowKit
set_option maxRecDepth 100000

theorem t38 (n : Int) (kk : SV → Prop) : evalF C1 64 Try.f38 [.int .i64 n] [] (fun v _ => kk v) = (
    kk (SV.int IntKind.i64 (clampV n (0 : Int) (9007199254740991 : Int)))) := by kernel_rfl
theorem t23 (l m s v f : Int) (kk : SV → Prop) : evalF C1 64 Try.f23 [.agg [.int .i64 l, .int .i64 m, .int .i64 s, .int .i64 v, .int .i64 f]] [] (fun v _ => kk v) = (
    bif f == (-1 : Int) then
      bif newE s != (0 : Int) then kk (SV.int IntKind.i64 (2 : Int))
      else
        bif
            !((0 : Int) == l &&
                ((0 : Int) == m &&
                  (zi (newE s) s == s && (zi (newE s) (s / (2 : Int)) == v && (zi (newE s) (-1 : Int) == f && true))))) then
          kk (SV.int IntKind.i64 (2 : Int))
        else kk (SV.int IntKind.i64 (0 : Int))
    else
      bif !(isT f && (isT l && (isT m && (isT s && isT v)))) then kk (SV.int IntKind.i64 (2 : Int))
      else
        bif decide ((if s < l then s else l) < m) then kk (SV.int IntKind.i64 (2 : Int))
        else kk (SV.int IntKind.i64 (0 : Int))) := by kernel_rfl
theorem t32 (l m s v f : Int) (kk : SV → Prop) : evalF C1 64 Try.f32 [.agg [.int .i64 l, .int .i64 m, .int .i64 s, .int .i64 v, .int .i64 f]] [] (fun v _ => kk v) = (
    bif f == (-1 : Int) then
      bif l != (0 : Int) then kk (SV.int IntKind.i64 (2 : Int))
      else
        bif m != (0 : Int) then kk (SV.int IntKind.i64 (2 : Int))
        else
          bif decide (s < (1000000 : Int)) then kk (SV.int IntKind.i64 (2 : Int))
          else
            bif decide ((60000000000 : Int) < s) then kk (SV.int IntKind.i64 (2 : Int))
            else
              bif v != IntKind.i64.wrap (s.tdiv (2 : Int)) then kk (SV.int IntKind.i64 (2 : Int))
              else kk (SV.int IntKind.i64 (0 : Int))
    else
      bif !isT f then kk (SV.int IntKind.i64 (2 : Int))
      else
        bif !isT l then kk (SV.int IntKind.i64 (2 : Int))
        else
          bif !isT m then kk (SV.int IntKind.i64 (2 : Int))
          else
            bif !isT s then kk (SV.int IntKind.i64 (2 : Int))
            else
              bif !isT v then kk (SV.int IntKind.i64 (2 : Int))
              else
                bif decide (l < m) then kk (SV.int IntKind.i64 (2 : Int))
                else bif decide (s < m) then kk (SV.int IntKind.i64 (2 : Int)) else kk (SV.int IntKind.i64 (0 : Int))) := by kernel_rfl
theorem t34 (a b : Int) (kk : SV → Prop) : evalF C1 64 Try.f34 [.int .i64 a, .int .i64 b] [] (fun v _ => kk v) = (
    bif decide (a < (0 : Int)) then kk (SV.int IntKind.i64 (-1 : Int))
    else
      bif decide ((9007199254740991 : Int) < a) then kk (SV.int IntKind.i64 (-1 : Int))
      else kk (SV.int IntKind.i64 (timeV (IntKind.i64.wrap (a + timeV b))))) := by kernel_rfl
theorem t42 (a b : Int) (kk : SV → Prop) : evalF C1 64 Try.f42 [.int .i64 a, .int .i64 b] [] (fun v _ => kk v) = (
    bif a != timeV a then kk (SV.int IntKind.i64 (-1 : Int))
    else kk (SV.int IntKind.i64 (timeV (IntKind.i64.wrap (a + timeV b))))) := by kernel_rfl
theorem t36 (n : Int) (kk : SV → Prop) : evalF C1 64 Try.f36 [.int .i64 n] [] (fun v _ => kk v) = (
    bif n == (-1 : Int) then kk (SV.bool true) else kk (SV.bool (isT n))) := by kernel_rfl
theorem t22 (n : Int) (kk : SV → Prop) : evalF C2 64 Try.f22 [.int .i64 n] [] (fun v _ => kk v) = (
    kk (SV.bool (n == timeV n))) := by kernel_rfl
theorem t26 (l m s v f sp d : Int) (kk : SV → Prop) : evalF C2 64 Try.f26 [.agg [.int .i64 l, .int .i64 m, .int .i64 s, .int .i64 v, .int .i64 f], .int .i64 sp, .int .i64 d] [] (fun v _ => kk v) = (
    bif chkE l m s v f != (0 : Int) then kk (SV.int IntKind.i64 (0 : Int))
    else
      bif decide (sp < (0 : Int)) then kk (SV.int IntKind.i64 (0 : Int))
      else
        bif decide ((3 : Int) ≤ sp) then kk (SV.int IntKind.i64 (0 : Int))
        else
          bif sp == (2 : Int) then
            kk
              (SV.int IntKind.i64
                (timeV
                  (IntKind.i64.wrap
                    (IntKind.i64.wrap
                        (s +
                          if (1000000 : Int) > IntKind.i64.wrap ((4 : Int) * v) then (1000000 : Int)
                          else IntKind.i64.wrap ((4 : Int) * v)) +
                      timeV d))))
          else
            kk
              (SV.int IntKind.i64
                (timeV
                  (IntKind.i64.wrap
                    (s +
                      if (1000000 : Int) > IntKind.i64.wrap ((4 : Int) * v) then (1000000 : Int)
                      else IntKind.i64.wrap ((4 : Int) * v)))))) := by kernel_rfl
theorem t46 (l m s v f sp d : Int) (kk : SV → Prop) : evalF C2 64 Try.f46 [.agg [.int .i64 l, .int .i64 m, .int .i64 s, .int .i64 v, .int .i64 f], .int .i64 sp, .int .i64 d] [] (fun v _ => kk v) = (
    bif chkE l m s v f != (0 : Int) then kk (SV.int IntKind.i64 (0 : Int))
    else
      bif decide (sp < (0 : Int)) then kk (SV.int IntKind.i64 (0 : Int))
      else
        bif decide ((3 : Int) ≤ sp) then kk (SV.int IntKind.i64 (0 : Int))
        else
          bif sp == (2 : Int) then
            kk
              (SV.int IntKind.i64
                (timeV
                  (IntKind.i64.wrap
                    (IntKind.i64.wrap
                        (s +
                          if (1000000 : Int) > IntKind.i64.wrap ((4 : Int) * v) then (1000000 : Int)
                          else IntKind.i64.wrap ((4 : Int) * v)) +
                      timeV d))))
          else
            kk
              (SV.int IntKind.i64
                (timeV
                  (IntKind.i64.wrap
                    (s +
                      if (1000000 : Int) > IntKind.i64.wrap ((4 : Int) * v) then (1000000 : Int)
                      else IntKind.i64.wrap ((4 : Int) * v)))))) := by kernel_rfl
theorem t21 (n : Int) (kk : SV → Prop) : evalF C3 64 Try.f21 [.int .i64 n] [] (fun v _ => kk v) = (
    bif n == (-1 : Int) then kk (SV.bool true) else kk (SV.bool (isT n))) := by kernel_rfl
end Go.Proofs.Ytfoogfhcjnpokaa
