/-
  What functions of the program come to, way by way: printed by a program, held by the kernel.
-/
import Derived.Test.YtfoogfhcjnpokaaX4
namespace Go.Proofs.Ytfoogfhcjnpokaa
open Go.RowKit
set_option maxRecDepth 100000

theorem t15 (F : Fc) (kk : SV → Prop) : evalF C4 64 Try.f15 [fc F] [] (fun v _ => kk v) = (
    bif !isOrNever F.a0 then kk (SV.bool false)
    else
      bif !isOrNever F.b0 then kk (SV.bool false)
      else
        bif decide (F.n0 < (0 : Int)) then kk (SV.bool false)
        else
          bif decide ((256 : Int) < F.n0) then kk (SV.bool false)
          else
            bif !isOrNever F.a1 then kk (SV.bool false)
            else
              bif !isOrNever F.b1 then kk (SV.bool false)
              else
                bif decide (F.n1 < (0 : Int)) then kk (SV.bool false)
                else
                  bif decide ((256 : Int) < F.n1) then kk (SV.bool false)
                  else
                    bif !isOrNever F.a2 then kk (SV.bool false)
                    else
                      bif !isOrNever F.b2 then kk (SV.bool false)
                      else
                        bif decide (F.n2 < (0 : Int)) then kk (SV.bool false)
                        else bif decide ((256 : Int) < F.n2) then kk (SV.bool false) else kk (SV.bool (isT F.now))) := by kernel_rfl
theorem t19 (F : Fc) (kk : SV → Prop) : evalF C4 64 Try.f19 [fc F] [] (fun v _ => kk v) = (
    bif !isOrNever F.a0 then kk (SV.bool false)
    else
      bif !isOrNever F.b0 then kk (SV.bool false)
      else
        bif decide (F.n0 < (0 : Int)) then kk (SV.bool false)
        else
          bif decide ((256 : Int) < F.n0) then kk (SV.bool false)
          else
            bif !isOrNever F.a1 then kk (SV.bool false)
            else
              bif !isOrNever F.b1 then kk (SV.bool false)
              else
                bif decide (F.n1 < (0 : Int)) then kk (SV.bool false)
                else
                  bif decide ((256 : Int) < F.n1) then kk (SV.bool false)
                  else
                    bif !isOrNever F.a2 then kk (SV.bool false)
                    else
                      bif !isOrNever F.b2 then kk (SV.bool false)
                      else
                        bif decide (F.n2 < (0 : Int)) then kk (SV.bool false)
                        else bif decide ((256 : Int) < F.n2) then kk (SV.bool false) else kk (SV.bool (isT F.now))) := by kernel_rfl
theorem t18 (F : Fc) (kk : SV → Prop) : evalF C0 64 Try.f18 [fc F] [] (fun v _ => kk v) = (
    kk
      (SV.agg
        [SV.bool F.k0, SV.int IntKind.i64 F.a0, SV.int IntKind.i64 F.b0, SV.int IntKind.i64 F.n0, SV.bool F.k1,
          SV.int IntKind.i64 F.a1, SV.int IntKind.i64 F.b1, SV.int IntKind.i64 F.n1, SV.bool F.k2, SV.int IntKind.i64 F.a2,
          SV.int IntKind.i64 F.b2, SV.int IntKind.i64 F.n2, SV.bool F.cf, SV.bool F.lm, SV.bool F.pr,
          SV.int IntKind.i64 F.now])) := by kernel_rfl
theorem t24 (i : Int) (l m s v f d c mo : Int) (kk : SV → Prop) : evalC C4 64  4 (bodF Try.f24) (enterS 14 [.int .i64 i, .ptr 0 0 5 0, .ptr 1 0 1 0, .ptr 2 0 1 0, .ptr 3 0 1 0]) (hpC l m s v f d c mo) ( endK Try.prog Try.f24.results.toList (fun v _ => kk v)) = (
    kk (SV.int IntKind.i64 (backV (baseV l m s v f i d) c mo))) := by kernel_rfl
theorem t28 (F : Fc) (l m s v f d c mo : Int) (Kr : SV → BO → Prop) : evalC C5 64  4 (bodF Try.f28) (enterS 24 [askS F]) (hpC l m s v f d c mo) ( endK Try.prog Try.f28.results.toList (fun v hp => Kr v (obsRes v hp))) = (
    bif F.a0 != (-1 : Int) then
      bif F.a1 != (-1 : Int) then
        bif F.a2 != (-1 : Int) then
          Kr (SV.slice (13 : Nat) (0 : Nat) (3 : Nat) (3 : Nat))
            (BO.rows (3 : Nat) (3 : Nat) true (32 : Nat)
              [[SV.int IntKind.i64 (1 : Int), SV.int IntKind.i64 (0 : Int), SV.int IntKind.i64 F.a0],
                [SV.int IntKind.i64 (1 : Int), SV.int IntKind.i64 (1 : Int), SV.int IntKind.i64 F.a1],
                [SV.int IntKind.i64 (1 : Int), SV.int IntKind.i64 (2 : Int), SV.int IntKind.i64 F.a2]])
        else
          Kr (SV.slice (10 : Nat) (0 : Nat) (3 : Nat) (2 : Nat))
            (BO.rows (3 : Nat) (2 : Nat) true (32 : Nat)
              [[SV.int IntKind.i64 (1 : Int), SV.int IntKind.i64 (0 : Int), SV.int IntKind.i64 F.a0],
                [SV.int IntKind.i64 (1 : Int), SV.int IntKind.i64 (1 : Int), SV.int IntKind.i64 F.a1]])
      else
        bif F.a2 != (-1 : Int) then
          Kr (SV.slice (11 : Nat) (0 : Nat) (3 : Nat) (2 : Nat))
            (BO.rows (3 : Nat) (2 : Nat) true (32 : Nat)
              [[SV.int IntKind.i64 (1 : Int), SV.int IntKind.i64 (0 : Int), SV.int IntKind.i64 F.a0],
                [SV.int IntKind.i64 (1 : Int), SV.int IntKind.i64 (2 : Int), SV.int IntKind.i64 F.a2]])
        else
          Kr (SV.slice (7 : Nat) (0 : Nat) (3 : Nat) (1 : Nat))
            (BO.rows (3 : Nat) (1 : Nat) true (32 : Nat)
              [[SV.int IntKind.i64 (1 : Int), SV.int IntKind.i64 (0 : Int), SV.int IntKind.i64 F.a0]])
    else
      bif F.a1 != (-1 : Int) then
        bif F.a2 != (-1 : Int) then
          Kr (SV.slice (11 : Nat) (0 : Nat) (3 : Nat) (2 : Nat))
            (BO.rows (3 : Nat) (2 : Nat) true (32 : Nat)
              [[SV.int IntKind.i64 (1 : Int), SV.int IntKind.i64 (1 : Int), SV.int IntKind.i64 F.a1],
                [SV.int IntKind.i64 (1 : Int), SV.int IntKind.i64 (2 : Int), SV.int IntKind.i64 F.a2]])
        else
          Kr (SV.slice (8 : Nat) (0 : Nat) (3 : Nat) (1 : Nat))
            (BO.rows (3 : Nat) (1 : Nat) true (32 : Nat)
              [[SV.int IntKind.i64 (1 : Int), SV.int IntKind.i64 (1 : Int), SV.int IntKind.i64 F.a1]])
      else
        bif F.a2 != (-1 : Int) then
          Kr (SV.slice (9 : Nat) (0 : Nat) (3 : Nat) (1 : Nat))
            (BO.rows (3 : Nat) (1 : Nat) true (32 : Nat)
              [[SV.int IntKind.i64 (1 : Int), SV.int IntKind.i64 (2 : Int), SV.int IntKind.i64 F.a2]])
        else Kr SV.nilSlice (BO.raw none)) := by kernel_rfl
theorem t29 (F : Fc) (l m s v f d c mo : Int) (Kr : SV → BO → Prop) : evalC C5 64  4 (bodF Try.f29) (enterS 43 [askS F]) (hpC l m s v f d c mo) ( endK Try.prog Try.f29.results.toList (fun v hp => Kr v (obsRes v hp))) = (
    bif decide ((0 : Int) < F.n0) then
      bif F.b0 != (-1 : Int) then
        bif decide ((0 : Int) < F.n1) then
          bif F.b1 != (-1 : Int) then
            bif decide ((0 : Int) < F.n2) then
              bif F.b2 != (-1 : Int) then
                bif F.cf then
                  Kr (SV.slice (13 : Nat) (0 : Nat) (3 : Nat) (3 : Nat))
                    (BO.rows (3 : Nat) (3 : Nat) true (32 : Nat)
                      [[SV.int IntKind.i64 (2 : Int), SV.int IntKind.i64 (0 : Int),
                          SV.int IntKind.i64 (dueV F.b0 (waitV l m s v f d c mo (0 : Int)))],
                        [SV.int IntKind.i64 (2 : Int), SV.int IntKind.i64 (1 : Int),
                          SV.int IntKind.i64 (dueV F.b1 (waitV l m s v f d c mo (1 : Int)))],
                        [SV.int IntKind.i64 (2 : Int), SV.int IntKind.i64 (2 : Int),
                          SV.int IntKind.i64 (dueV F.b2 (waitV l m s v f d c mo (2 : Int)))]])
                else
                  Kr (SV.slice (10 : Nat) (0 : Nat) (3 : Nat) (2 : Nat))
                    (BO.rows (3 : Nat) (2 : Nat) true (32 : Nat)
                      [[SV.int IntKind.i64 (2 : Int), SV.int IntKind.i64 (0 : Int),
                          SV.int IntKind.i64 (dueV F.b0 (waitV l m s v f d c mo (0 : Int)))],
                        [SV.int IntKind.i64 (2 : Int), SV.int IntKind.i64 (1 : Int),
                          SV.int IntKind.i64 (dueV F.b1 (waitV l m s v f d c mo (1 : Int)))]])
              else
                Kr (SV.slice (10 : Nat) (0 : Nat) (3 : Nat) (2 : Nat))
                  (BO.rows (3 : Nat) (2 : Nat) true (32 : Nat)
                    [[SV.int IntKind.i64 (2 : Int), SV.int IntKind.i64 (0 : Int),
                        SV.int IntKind.i64 (dueV F.b0 (waitV l m s v f d c mo (0 : Int)))],
                      [SV.int IntKind.i64 (2 : Int), SV.int IntKind.i64 (1 : Int),
                        SV.int IntKind.i64 (dueV F.b1 (waitV l m s v f d c mo (1 : Int)))]])
            else
              Kr (SV.slice (10 : Nat) (0 : Nat) (3 : Nat) (2 : Nat))
                (BO.rows (3 : Nat) (2 : Nat) true (32 : Nat)
                  [[SV.int IntKind.i64 (2 : Int), SV.int IntKind.i64 (0 : Int),
                      SV.int IntKind.i64 (dueV F.b0 (waitV l m s v f d c mo (0 : Int)))],
                    [SV.int IntKind.i64 (2 : Int), SV.int IntKind.i64 (1 : Int),
                      SV.int IntKind.i64 (dueV F.b1 (waitV l m s v f d c mo (1 : Int)))]])
          else
            bif decide ((0 : Int) < F.n2) then
              bif F.b2 != (-1 : Int) then
                bif F.cf then
                  Kr (SV.slice (11 : Nat) (0 : Nat) (3 : Nat) (2 : Nat))
                    (BO.rows (3 : Nat) (2 : Nat) true (32 : Nat)
                      [[SV.int IntKind.i64 (2 : Int), SV.int IntKind.i64 (0 : Int),
                          SV.int IntKind.i64 (dueV F.b0 (waitV l m s v f d c mo (0 : Int)))],
                        [SV.int IntKind.i64 (2 : Int), SV.int IntKind.i64 (2 : Int),
                          SV.int IntKind.i64 (dueV F.b2 (waitV l m s v f d c mo (2 : Int)))]])
                else
                  Kr (SV.slice (7 : Nat) (0 : Nat) (3 : Nat) (1 : Nat))
                    (BO.rows (3 : Nat) (1 : Nat) true (32 : Nat)
                      [[SV.int IntKind.i64 (2 : Int), SV.int IntKind.i64 (0 : Int),
                          SV.int IntKind.i64 (dueV F.b0 (waitV l m s v f d c mo (0 : Int)))]])
              else
                Kr (SV.slice (7 : Nat) (0 : Nat) (3 : Nat) (1 : Nat))
                  (BO.rows (3 : Nat) (1 : Nat) true (32 : Nat)
                    [[SV.int IntKind.i64 (2 : Int), SV.int IntKind.i64 (0 : Int),
                        SV.int IntKind.i64 (dueV F.b0 (waitV l m s v f d c mo (0 : Int)))]])
            else
              Kr (SV.slice (7 : Nat) (0 : Nat) (3 : Nat) (1 : Nat))
                (BO.rows (3 : Nat) (1 : Nat) true (32 : Nat)
                  [[SV.int IntKind.i64 (2 : Int), SV.int IntKind.i64 (0 : Int),
                      SV.int IntKind.i64 (dueV F.b0 (waitV l m s v f d c mo (0 : Int)))]])
        else
          bif decide ((0 : Int) < F.n2) then
            bif F.b2 != (-1 : Int) then
              bif F.cf then
                Kr (SV.slice (11 : Nat) (0 : Nat) (3 : Nat) (2 : Nat))
                  (BO.rows (3 : Nat) (2 : Nat) true (32 : Nat)
                    [[SV.int IntKind.i64 (2 : Int), SV.int IntKind.i64 (0 : Int),
                        SV.int IntKind.i64 (dueV F.b0 (waitV l m s v f d c mo (0 : Int)))],
                      [SV.int IntKind.i64 (2 : Int), SV.int IntKind.i64 (2 : Int),
                        SV.int IntKind.i64 (dueV F.b2 (waitV l m s v f d c mo (2 : Int)))]])
              else
                Kr (SV.slice (7 : Nat) (0 : Nat) (3 : Nat) (1 : Nat))
                  (BO.rows (3 : Nat) (1 : Nat) true (32 : Nat)
                    [[SV.int IntKind.i64 (2 : Int), SV.int IntKind.i64 (0 : Int),
                        SV.int IntKind.i64 (dueV F.b0 (waitV l m s v f d c mo (0 : Int)))]])
            else
              Kr (SV.slice (7 : Nat) (0 : Nat) (3 : Nat) (1 : Nat))
                (BO.rows (3 : Nat) (1 : Nat) true (32 : Nat)
                  [[SV.int IntKind.i64 (2 : Int), SV.int IntKind.i64 (0 : Int),
                      SV.int IntKind.i64 (dueV F.b0 (waitV l m s v f d c mo (0 : Int)))]])
          else
            Kr (SV.slice (7 : Nat) (0 : Nat) (3 : Nat) (1 : Nat))
              (BO.rows (3 : Nat) (1 : Nat) true (32 : Nat)
                [[SV.int IntKind.i64 (2 : Int), SV.int IntKind.i64 (0 : Int),
                    SV.int IntKind.i64 (dueV F.b0 (waitV l m s v f d c mo (0 : Int)))]])
      else
        bif decide ((0 : Int) < F.n1) then
          bif F.b1 != (-1 : Int) then
            bif decide ((0 : Int) < F.n2) then
              bif F.b2 != (-1 : Int) then
                bif F.cf then
                  Kr (SV.slice (11 : Nat) (0 : Nat) (3 : Nat) (2 : Nat))
                    (BO.rows (3 : Nat) (2 : Nat) true (32 : Nat)
                      [[SV.int IntKind.i64 (2 : Int), SV.int IntKind.i64 (1 : Int),
                          SV.int IntKind.i64 (dueV F.b1 (waitV l m s v f d c mo (1 : Int)))],
                        [SV.int IntKind.i64 (2 : Int), SV.int IntKind.i64 (2 : Int),
                          SV.int IntKind.i64 (dueV F.b2 (waitV l m s v f d c mo (2 : Int)))]])
                else
                  Kr (SV.slice (8 : Nat) (0 : Nat) (3 : Nat) (1 : Nat))
                    (BO.rows (3 : Nat) (1 : Nat) true (32 : Nat)
                      [[SV.int IntKind.i64 (2 : Int), SV.int IntKind.i64 (1 : Int),
                          SV.int IntKind.i64 (dueV F.b1 (waitV l m s v f d c mo (1 : Int)))]])
              else
                Kr (SV.slice (8 : Nat) (0 : Nat) (3 : Nat) (1 : Nat))
                  (BO.rows (3 : Nat) (1 : Nat) true (32 : Nat)
                    [[SV.int IntKind.i64 (2 : Int), SV.int IntKind.i64 (1 : Int),
                        SV.int IntKind.i64 (dueV F.b1 (waitV l m s v f d c mo (1 : Int)))]])
            else
              Kr (SV.slice (8 : Nat) (0 : Nat) (3 : Nat) (1 : Nat))
                (BO.rows (3 : Nat) (1 : Nat) true (32 : Nat)
                  [[SV.int IntKind.i64 (2 : Int), SV.int IntKind.i64 (1 : Int),
                      SV.int IntKind.i64 (dueV F.b1 (waitV l m s v f d c mo (1 : Int)))]])
          else
            bif decide ((0 : Int) < F.n2) then
              bif F.b2 != (-1 : Int) then
                bif F.cf then
                  Kr (SV.slice (9 : Nat) (0 : Nat) (3 : Nat) (1 : Nat))
                    (BO.rows (3 : Nat) (1 : Nat) true (32 : Nat)
                      [[SV.int IntKind.i64 (2 : Int), SV.int IntKind.i64 (2 : Int),
                          SV.int IntKind.i64 (dueV F.b2 (waitV l m s v f d c mo (2 : Int)))]])
                else Kr SV.nilSlice (BO.raw none)
              else Kr SV.nilSlice (BO.raw none)
            else Kr SV.nilSlice (BO.raw none)
        else
          bif decide ((0 : Int) < F.n2) then
            bif F.b2 != (-1 : Int) then
              bif F.cf then
                Kr (SV.slice (9 : Nat) (0 : Nat) (3 : Nat) (1 : Nat))
                  (BO.rows (3 : Nat) (1 : Nat) true (32 : Nat)
                    [[SV.int IntKind.i64 (2 : Int), SV.int IntKind.i64 (2 : Int),
                        SV.int IntKind.i64 (dueV F.b2 (waitV l m s v f d c mo (2 : Int)))]])
              else Kr SV.nilSlice (BO.raw none)
            else Kr SV.nilSlice (BO.raw none)
          else Kr SV.nilSlice (BO.raw none)
    else
      bif decide ((0 : Int) < F.n1) then
        bif F.b1 != (-1 : Int) then
          bif decide ((0 : Int) < F.n2) then
            bif F.b2 != (-1 : Int) then
              bif F.cf then
                Kr (SV.slice (11 : Nat) (0 : Nat) (3 : Nat) (2 : Nat))
                  (BO.rows (3 : Nat) (2 : Nat) true (32 : Nat)
                    [[SV.int IntKind.i64 (2 : Int), SV.int IntKind.i64 (1 : Int),
                        SV.int IntKind.i64 (dueV F.b1 (waitV l m s v f d c mo (1 : Int)))],
                      [SV.int IntKind.i64 (2 : Int), SV.int IntKind.i64 (2 : Int),
                        SV.int IntKind.i64 (dueV F.b2 (waitV l m s v f d c mo (2 : Int)))]])
              else
                Kr (SV.slice (8 : Nat) (0 : Nat) (3 : Nat) (1 : Nat))
                  (BO.rows (3 : Nat) (1 : Nat) true (32 : Nat)
                    [[SV.int IntKind.i64 (2 : Int), SV.int IntKind.i64 (1 : Int),
                        SV.int IntKind.i64 (dueV F.b1 (waitV l m s v f d c mo (1 : Int)))]])
            else
              Kr (SV.slice (8 : Nat) (0 : Nat) (3 : Nat) (1 : Nat))
                (BO.rows (3 : Nat) (1 : Nat) true (32 : Nat)
                  [[SV.int IntKind.i64 (2 : Int), SV.int IntKind.i64 (1 : Int),
                      SV.int IntKind.i64 (dueV F.b1 (waitV l m s v f d c mo (1 : Int)))]])
          else
            Kr (SV.slice (8 : Nat) (0 : Nat) (3 : Nat) (1 : Nat))
              (BO.rows (3 : Nat) (1 : Nat) true (32 : Nat)
                [[SV.int IntKind.i64 (2 : Int), SV.int IntKind.i64 (1 : Int),
                    SV.int IntKind.i64 (dueV F.b1 (waitV l m s v f d c mo (1 : Int)))]])
        else
          bif decide ((0 : Int) < F.n2) then
            bif F.b2 != (-1 : Int) then
              bif F.cf then
                Kr (SV.slice (9 : Nat) (0 : Nat) (3 : Nat) (1 : Nat))
                  (BO.rows (3 : Nat) (1 : Nat) true (32 : Nat)
                    [[SV.int IntKind.i64 (2 : Int), SV.int IntKind.i64 (2 : Int),
                        SV.int IntKind.i64 (dueV F.b2 (waitV l m s v f d c mo (2 : Int)))]])
              else Kr SV.nilSlice (BO.raw none)
            else Kr SV.nilSlice (BO.raw none)
          else Kr SV.nilSlice (BO.raw none)
      else
        bif decide ((0 : Int) < F.n2) then
          bif F.b2 != (-1 : Int) then
            bif F.cf then
              Kr (SV.slice (9 : Nat) (0 : Nat) (3 : Nat) (1 : Nat))
                (BO.rows (3 : Nat) (1 : Nat) true (32 : Nat)
                  [[SV.int IntKind.i64 (2 : Int), SV.int IntKind.i64 (2 : Int),
                      SV.int IntKind.i64 (dueV F.b2 (waitV l m s v f d c mo (2 : Int)))]])
            else Kr SV.nilSlice (BO.raw none)
          else Kr SV.nilSlice (BO.raw none)
        else Kr SV.nilSlice (BO.raw none)) := by kernel_rfl
theorem t30 (F : Fc) (l m s v f d c mo : Int) (Kr : SV → BO → Prop) : evalC C5 64  4 (bodF Try.f30) (enterS 47 [askS F]) (hpC l m s v f d c mo) ( endK Try.prog Try.f30.results.toList (fun v hp => Kr v (obsRes v hp))) = (
    bif decide ((0 : Int) < F.n0) then Kr SV.nilSlice (BO.raw none)
    else
      bif decide ((0 : Int) < F.n1) then Kr SV.nilSlice (BO.raw none)
      else
        bif decide ((0 : Int) < F.n2) then Kr SV.nilSlice (BO.raw none)
        else
          bif F.k1 then
            bif !F.pr then
              Kr (SV.slice (9 : Nat) (0 : Nat) (3 : Nat) (1 : Nat))
                (BO.rows (3 : Nat) (1 : Nat) true (32 : Nat)
                  [[SV.int IntKind.i64 (2 : Int), SV.int IntKind.i64 (1 : Int),
                      SV.int IntKind.i64 (dueV F.now (waitV l m s v f d c mo (1 : Int)))]])
            else
              bif F.k0 then
                bif !F.pr then
                  Kr (SV.slice (9 : Nat) (0 : Nat) (3 : Nat) (1 : Nat))
                    (BO.rows (3 : Nat) (1 : Nat) true (32 : Nat)
                      [[SV.int IntKind.i64 (2 : Int), SV.int IntKind.i64 (0 : Int),
                          SV.int IntKind.i64 (dueV F.now (waitV l m s v f d c mo (0 : Int)))]])
                else Kr SV.nilSlice (BO.raw none)
              else Kr SV.nilSlice (BO.raw none)
          else
            bif F.k0 then
              bif !F.pr then
                Kr (SV.slice (9 : Nat) (0 : Nat) (3 : Nat) (1 : Nat))
                  (BO.rows (3 : Nat) (1 : Nat) true (32 : Nat)
                    [[SV.int IntKind.i64 (2 : Int), SV.int IntKind.i64 (0 : Int),
                        SV.int IntKind.i64 (dueV F.now (waitV l m s v f d c mo (0 : Int)))]])
              else Kr SV.nilSlice (BO.raw none)
            else Kr SV.nilSlice (BO.raw none)) := by kernel_rfl
end Go.Proofs.Ytfoogfhcjnpokaa
