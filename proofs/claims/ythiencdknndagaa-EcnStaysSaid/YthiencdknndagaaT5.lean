/-
  What functions of the program come to, way by way: printed by a program, held by the kernel.
-/
import Derived.Test.YthiencdknndagaaX5
import Derived.Test.YthiencdknndagaaX4
namespace Go.Proofs.Ythiencdknndagaa
open Go.RowKit
set_option maxRecDepth 100000

theorem p5_0 (n : Nat) (g : Nat → Nat → Int) (many : Int) (Kt : KT5) : evalC C6 0  1 (.seq c5_0 c5_1) (enterS 102 [.slice 0 0 3 n, .int .i64 many]) (hpA n g) ( keep5 Kt [0, 1, 4, 5, 6, 11]) = (
    Kt Ex.normal (102 : Nat)
      [SV.slice (0 : Nat) (0 : Nat) (3 : Nat) n, SV.int IntKind.i64 many, SV.bool false,
        SV.ptr (1 : Nat) (0 : Nat) (5 : Nat) (0 : Nat), SV.top, SV.top]
      [some
          (Blk.mk (3 : Nat) n
            (fun r =>
              [SV.int IntKind.i64 (g r (0 : Nat)), SV.int IntKind.i64 (g r (1 : Nat)), SV.int IntKind.i64 (g r (2 : Nat))])
            false (0 : Nat))]
      [((5 : Nat), (1 : Nat), true, (24 : Nat),
          [[SV.int IntKind.i64 (5 : Int), SV.int IntKind.i64 (2 : Int), SV.int IntKind.i64 (0 : Int),
              SV.int IntKind.i64 (1 : Int), SV.bool true]])]) := by kernel_rfl
theorem p5_2 (n : Nat) (g : Nat → Nat → Int) (many : Int) (s : Int) (Kt : KT5) : evalC C6 0  1 c5_2 (fr5 n many []) (hpB n g s) ( keep5 Kt [0, 1, 4, 5, 6, 11]) = (
    Kt Ex.normal (102 : Nat)
      [SV.slice (0 : Nat) (0 : Nat) (3 : Nat) n, SV.int IntKind.i64 many, SV.bool false,
        SV.ptr (1 : Nat) (0 : Nat) (5 : Nat) (0 : Nat), SV.int IntKind.i64 (0 : Int), SV.top]
      [some
          (Blk.mk (3 : Nat) n
            (fun r =>
              [SV.int IntKind.i64 (g r (0 : Nat)), SV.int IntKind.i64 (g r (1 : Nat)), SV.int IntKind.i64 (g r (2 : Nat))])
            false (0 : Nat))]
      [((5 : Nat), (1 : Nat), true, (24 : Nat),
          [[SV.int IntKind.i64 s, SV.int IntKind.i64 (2 : Int), SV.int IntKind.i64 (0 : Int), SV.int IntKind.i64 (1 : Int),
              SV.bool true]])]) := by kernel_rfl
theorem p5_3 (n : Nat) (g : Nat → Nat → Int) (many : Int) (s : Int) (i : Nat) (Kt : KT5) : evalC C6 0  1 c5_3 (fO n many i) (hpB n g s) ( keep5 Kt [0, 1, 4, 5, 6, 11]) = (
    bif decide ((↑i : Int) < (↑n : Int)) then
      bif decide ((↑i : Int) < (30 : Int)) then
        Kt Ex.normal (102 : Nat)
          [SV.slice (0 : Nat) (0 : Nat) (3 : Nat) n, SV.int IntKind.i64 many, SV.bool false,
            SV.ptr (1 : Nat) (0 : Nat) (5 : Nat) (0 : Nat), SV.int IntKind.i64 (↑i : Int), SV.top]
          [some
              (Blk.mk (3 : Nat) n
                (fun r =>
                  [SV.int IntKind.i64 (g r (0 : Nat)), SV.int IntKind.i64 (g r (1 : Nat)),
                    SV.int IntKind.i64 (g r (2 : Nat))])
                false (0 : Nat))]
          [((5 : Nat), (1 : Nat), true, (24 : Nat),
              [[SV.int IntKind.i64 s, SV.int IntKind.i64 (2 : Int), SV.int IntKind.i64 (0 : Int),
                  SV.int IntKind.i64 (1 : Int), SV.bool true]])]
      else
        Kt (Ex.exit (0 : Nat)) (102 : Nat)
          [SV.slice (0 : Nat) (0 : Nat) (3 : Nat) n, SV.int IntKind.i64 many, SV.bool false,
            SV.ptr (1 : Nat) (0 : Nat) (5 : Nat) (0 : Nat), SV.int IntKind.i64 (↑i : Int), SV.top]
          [some
              (Blk.mk (3 : Nat) n
                (fun r =>
                  [SV.int IntKind.i64 (g r (0 : Nat)), SV.int IntKind.i64 (g r (1 : Nat)),
                    SV.int IntKind.i64 (g r (2 : Nat))])
                false (0 : Nat))]
          [((5 : Nat), (1 : Nat), true, (24 : Nat),
              [[SV.int IntKind.i64 s, SV.int IntKind.i64 (2 : Int), SV.int IntKind.i64 (0 : Int),
                  SV.int IntKind.i64 (1 : Int), SV.bool true]])]
    else
      Kt (Ex.exit (0 : Nat)) (102 : Nat)
        [SV.slice (0 : Nat) (0 : Nat) (3 : Nat) n, SV.int IntKind.i64 many, SV.bool false,
          SV.ptr (1 : Nat) (0 : Nat) (5 : Nat) (0 : Nat), SV.int IntKind.i64 (↑i : Int), SV.top]
        [some
            (Blk.mk (3 : Nat) n
              (fun r =>
                [SV.int IntKind.i64 (g r (0 : Nat)), SV.int IntKind.i64 (g r (1 : Nat)),
                  SV.int IntKind.i64 (g r (2 : Nat))])
              false (0 : Nat))]
        [((5 : Nat), (1 : Nat), true, (24 : Nat),
            [[SV.int IntKind.i64 s, SV.int IntKind.i64 (2 : Int), SV.int IntKind.i64 (0 : Int),
                SV.int IntKind.i64 (1 : Int), SV.bool true]])]) := by kernel_rfl
theorem p5_4 (n : Nat) (g : Nat → Nat → Int) (many : Int) (s : Int) (i : Nat) (Kt : KT5) : evalC C6 0  1 (.seq c5_4 (.seq c5_5 (.seq c5_6 c5_7))) (fO n many i) (hpB n g s) ( keep5 Kt [0, 1, 4, 5, 6, 11]) = (
    bif decide ((0 : Int) ≤ (↑i : Int)) && decide ((↑i : Int) < (↑n : Int)) then
      bif decide ((0 : Nat) + (↑i : Int).toNat < n) && true then
        ∀ (r : Int),
          BrP (g ((0 : Nat) + (↑i : Int).toNat) (0 : Nat)) (100 : Int) r →
            bif decide ((0 : Int) ≤ (↑i : Int)) && decide ((↑i : Int) < (↑n : Int)) then
              bif decide ((0 : Nat) + (↑i : Int).toNat < n) && true then
                ∀ (r_1 : Int),
                  BrP (g ((0 : Nat) + (↑i : Int).toNat) (1 : Nat)) (100 : Int) r_1 →
                    bif decide ((0 : Int) ≤ (↑i : Int)) && decide ((↑i : Int) < (↑n : Int)) then
                      bif decide ((0 : Nat) + (↑i : Int).toNat < n) && true then
                        ∀ (r_2 : Int),
                          BrP (g ((0 : Nat) + (↑i : Int).toNat) (2 : Nat)) (100 : Int) r_2 →
                            ∀ (s' a' b' c' : Int) (f' bo : Bool) (e : Int),
                              AckP true ((↑i : Int).tmod (4 : Int) != (3 : Int)) s (2 : Int) (0 : Int) (1 : Int) r r_1 r_2
                                  (↑i : Int) s' a' b' c' f' bo e →
                                bif e != (0 : Int) then
                                  Kt Ex.ret (102 : Nat)
                                    [SV.slice (0 : Nat) (0 : Nat) (3 : Nat) n, SV.int IntKind.i64 many, SV.bool false,
                                      SV.ptr (1 : Nat) (0 : Nat) (5 : Nat) (0 : Nat), SV.int IntKind.i64 (↑i : Int), SV.top]
                                    [some
                                        (Blk.mk (3 : Nat) n
                                          (fun r =>
                                            [SV.int IntKind.i64 (g r (0 : Nat)), SV.int IntKind.i64 (g r (1 : Nat)),
                                              SV.int IntKind.i64 (g r (2 : Nat))])
                                          false (0 : Nat))]
                                    [((5 : Nat), (1 : Nat), true, (24 : Nat),
                                        [[SV.int IntKind.i64 s, SV.int IntKind.i64 (2 : Int), SV.int IntKind.i64 (0 : Int),
                                            SV.int IntKind.i64 (1 : Int), SV.bool true]])]
                                else
                                  bif bo then
                                    Kt Ex.ret (102 : Nat)
                                      [SV.slice (0 : Nat) (0 : Nat) (3 : Nat) n, SV.int IntKind.i64 many, SV.bool false,
                                        SV.ptr (1 : Nat) (0 : Nat) (5 : Nat) (0 : Nat), SV.int IntKind.i64 (↑i : Int),
                                        SV.top]
                                      [some
                                          (Blk.mk (3 : Nat) n
                                            (fun r =>
                                              [SV.int IntKind.i64 (g r (0 : Nat)), SV.int IntKind.i64 (g r (1 : Nat)),
                                                SV.int IntKind.i64 (g r (2 : Nat))])
                                            false (0 : Nat))]
                                      [((5 : Nat), (1 : Nat), true, (24 : Nat),
                                          [[SV.int IntKind.i64 s, SV.int IntKind.i64 (2 : Int),
                                              SV.int IntKind.i64 (0 : Int), SV.int IntKind.i64 (1 : Int), SV.bool true]])]
                                  else
                                    bif
                                        !(s' == s &&
                                            (a' == (2 : Int) && (b' == (0 : Int) && (c' == (1 : Int) && true)) &&
                                              (f' == true && true))) then
                                      Kt Ex.ret (102 : Nat)
                                        [SV.slice (0 : Nat) (0 : Nat) (3 : Nat) n, SV.int IntKind.i64 many, SV.bool false,
                                          SV.ptr (1 : Nat) (0 : Nat) (5 : Nat) (0 : Nat), SV.int IntKind.i64 (↑i : Int),
                                          SV.top]
                                        [some
                                            (Blk.mk (3 : Nat) n
                                              (fun r =>
                                                [SV.int IntKind.i64 (g r (0 : Nat)), SV.int IntKind.i64 (g r (1 : Nat)),
                                                  SV.int IntKind.i64 (g r (2 : Nat))])
                                              false (0 : Nat))]
                                        [((5 : Nat), (1 : Nat), true, (24 : Nat),
                                            [[SV.int IntKind.i64 s, SV.int IntKind.i64 (2 : Int),
                                                SV.int IntKind.i64 (0 : Int), SV.int IntKind.i64 (1 : Int), SV.bool true]])]
                                    else
                                      ∀ (r : Int),
                                        BrP many (4 : Int) r →
                                          Kt Ex.normal (102 : Nat)
                                            [SV.slice (0 : Nat) (0 : Nat) (3 : Nat) n, SV.int IntKind.i64 many,
                                              SV.bool false, SV.ptr (1 : Nat) (0 : Nat) (5 : Nat) (0 : Nat),
                                              SV.int IntKind.i64 (↑i : Int), SV.int IntKind.i64 r]
                                            [some
                                                (Blk.mk (3 : Nat) n
                                                  (fun r =>
                                                    [SV.int IntKind.i64 (g r (0 : Nat)), SV.int IntKind.i64 (g r (1 : Nat)),
                                                      SV.int IntKind.i64 (g r (2 : Nat))])
                                                  false (0 : Nat))]
                                            [((5 : Nat), (1 : Nat), true, (24 : Nat),
                                                [[SV.int IntKind.i64 s, SV.int IntKind.i64 (2 : Int),
                                                    SV.int IntKind.i64 (0 : Int), SV.int IntKind.i64 (1 : Int),
                                                    SV.bool true]])]
                      else False
                    else False
              else False
            else False
      else False
    else False) := by kernel_rfl
theorem p5_8 (n : Nat) (g : Nat → Nat → Int) (many : Int) (s : Int) (i : Nat) (k : Int) (Kt : KT5) : evalC C6 0  1 c5_8 (fN n many i k) (hpB n g s) ( keep5 Kt [0, 1, 4, 5, 6, 11]) = (
    bif decide ((0 : Int) < k) then
      ∀ (s' a' b' c' : Int) (f' : Bool) (e : Int),
        MarkP true s (2 : Int) (0 : Int) (1 : Int) s' a' b' c' f' e →
          bif e != (0 : Int) then
            Kt Ex.ret (102 : Nat)
              [SV.slice (0 : Nat) (0 : Nat) (3 : Nat) n, SV.int IntKind.i64 many, SV.bool false,
                SV.ptr (1 : Nat) (0 : Nat) (5 : Nat) (0 : Nat), SV.int IntKind.i64 (↑i : Int), SV.int IntKind.i64 k]
              [some
                  (Blk.mk (3 : Nat) n
                    (fun r =>
                      [SV.int IntKind.i64 (g r (0 : Nat)), SV.int IntKind.i64 (g r (1 : Nat)),
                        SV.int IntKind.i64 (g r (2 : Nat))])
                    false (0 : Nat))]
              [((5 : Nat), (1 : Nat), true, (24 : Nat),
                  [[SV.int IntKind.i64 s, SV.int IntKind.i64 (2 : Int), SV.int IntKind.i64 (0 : Int),
                      SV.int IntKind.i64 (1 : Int), SV.bool true]])]
          else
            bif s' != IntKind.i64.wrap (s + (1 : Int)) then
              Kt Ex.ret (102 : Nat)
                [SV.slice (0 : Nat) (0 : Nat) (3 : Nat) n, SV.int IntKind.i64 many, SV.bool false,
                  SV.ptr (1 : Nat) (0 : Nat) (5 : Nat) (0 : Nat), SV.int IntKind.i64 (↑i : Int), SV.int IntKind.i64 k]
                [some
                    (Blk.mk (3 : Nat) n
                      (fun r =>
                        [SV.int IntKind.i64 (g r (0 : Nat)), SV.int IntKind.i64 (g r (1 : Nat)),
                          SV.int IntKind.i64 (g r (2 : Nat))])
                      false (0 : Nat))]
                [((5 : Nat), (1 : Nat), true, (24 : Nat),
                    [[SV.int IntKind.i64 s, SV.int IntKind.i64 (2 : Int), SV.int IntKind.i64 (0 : Int),
                        SV.int IntKind.i64 (1 : Int), SV.bool true]])]
            else
              bif !f' then
                Kt Ex.ret (102 : Nat)
                  [SV.slice (0 : Nat) (0 : Nat) (3 : Nat) n, SV.int IntKind.i64 many, SV.bool false,
                    SV.ptr (1 : Nat) (0 : Nat) (5 : Nat) (0 : Nat), SV.int IntKind.i64 (↑i : Int), SV.int IntKind.i64 k]
                  [some
                      (Blk.mk (3 : Nat) n
                        (fun r =>
                          [SV.int IntKind.i64 (g r (0 : Nat)), SV.int IntKind.i64 (g r (1 : Nat)),
                            SV.int IntKind.i64 (g r (2 : Nat))])
                        false (0 : Nat))]
                  [((5 : Nat), (1 : Nat), true, (24 : Nat),
                      [[SV.int IntKind.i64 s, SV.int IntKind.i64 (2 : Int), SV.int IntKind.i64 (0 : Int),
                          SV.int IntKind.i64 (1 : Int), SV.bool true]])]
              else
                bif !(a' == (2 : Int) && (b' == (0 : Int) && (c' == (1 : Int) && true))) then
                  Kt Ex.ret (102 : Nat)
                    [SV.slice (0 : Nat) (0 : Nat) (3 : Nat) n, SV.int IntKind.i64 many, SV.bool false,
                      SV.ptr (1 : Nat) (0 : Nat) (5 : Nat) (0 : Nat), SV.int IntKind.i64 (↑i : Int), SV.int IntKind.i64 k]
                    [some
                        (Blk.mk (3 : Nat) n
                          (fun r =>
                            [SV.int IntKind.i64 (g r (0 : Nat)), SV.int IntKind.i64 (g r (1 : Nat)),
                              SV.int IntKind.i64 (g r (2 : Nat))])
                          false (0 : Nat))]
                    [((5 : Nat), (1 : Nat), true, (24 : Nat),
                        [[SV.int IntKind.i64 s, SV.int IntKind.i64 (2 : Int), SV.int IntKind.i64 (0 : Int),
                            SV.int IntKind.i64 (1 : Int), SV.bool true]])]
                else
                  Kt Ex.normal (102 : Nat)
                    [SV.slice (0 : Nat) (0 : Nat) (3 : Nat) n, SV.int IntKind.i64 many, SV.bool false,
                      SV.ptr (1 : Nat) (0 : Nat) (5 : Nat) (0 : Nat), SV.int IntKind.i64 (↑i : Int),
                      SV.int IntKind.i64 (IntKind.i64.wrap (k - (1 : Int)))]
                    [some
                        (Blk.mk (3 : Nat) n
                          (fun r =>
                            [SV.int IntKind.i64 (g r (0 : Nat)), SV.int IntKind.i64 (g r (1 : Nat)),
                              SV.int IntKind.i64 (g r (2 : Nat))])
                          false (0 : Nat))]
                    [((5 : Nat), (1 : Nat), (cnt5 s).rw, (24 : Nat),
                        [[SV.int IntKind.i64 s', SV.int IntKind.i64 a', SV.int IntKind.i64 b', SV.int IntKind.i64 c',
                            SV.bool f']])]
    else
      Kt (Ex.exit (2 : Nat)) (102 : Nat)
        [SV.slice (0 : Nat) (0 : Nat) (3 : Nat) n, SV.int IntKind.i64 many, SV.bool false,
          SV.ptr (1 : Nat) (0 : Nat) (5 : Nat) (0 : Nat), SV.int IntKind.i64 (↑i : Int), SV.int IntKind.i64 k]
        [some
            (Blk.mk (3 : Nat) n
              (fun r =>
                [SV.int IntKind.i64 (g r (0 : Nat)), SV.int IntKind.i64 (g r (1 : Nat)),
                  SV.int IntKind.i64 (g r (2 : Nat))])
              false (0 : Nat))]
        [((5 : Nat), (1 : Nat), true, (24 : Nat),
            [[SV.int IntKind.i64 s, SV.int IntKind.i64 (2 : Int), SV.int IntKind.i64 (0 : Int),
                SV.int IntKind.i64 (1 : Int), SV.bool true]])]) := by kernel_rfl
theorem p5_9 (n : Nat) (g : Nat → Nat → Int) (many : Int) (s : Int) (i : Nat) (Kt : KT5) : evalC C6 0  1 c5_9 (fO n many i) (hpB n g s) ( keep5 Kt [0, 1, 4, 5, 6, 11]) = (
    Kt Ex.normal (102 : Nat)
      [SV.slice (0 : Nat) (0 : Nat) (3 : Nat) n, SV.int IntKind.i64 many, SV.bool false,
        SV.ptr (1 : Nat) (0 : Nat) (5 : Nat) (0 : Nat), SV.int IntKind.i64 (IntKind.i64.wrap ((↑i : Int) + (1 : Int))),
        SV.top]
      [some
          (Blk.mk (3 : Nat) n
            (fun r =>
              [SV.int IntKind.i64 (g r (0 : Nat)), SV.int IntKind.i64 (g r (1 : Nat)), SV.int IntKind.i64 (g r (2 : Nat))])
            false (0 : Nat))]
      [((5 : Nat), (1 : Nat), true, (24 : Nat),
          [[SV.int IntKind.i64 s, SV.int IntKind.i64 (2 : Int), SV.int IntKind.i64 (0 : Int), SV.int IntKind.i64 (1 : Int),
              SV.bool true]])]) := by kernel_rfl
theorem p5_10 (n : Nat) (g : Nat → Nat → Int) (many : Int) (s : Int) (Kt : KT5) : evalC C6 0  1 c5_10 (fr5 n many []) (hpB n g s) ( keep5 Kt [4]) = (
    Kt Ex.ret (102 : Nat) [SV.bool true]
      [some
          (Blk.mk (3 : Nat) n
            (fun r =>
              [SV.int IntKind.i64 (g r (0 : Nat)), SV.int IntKind.i64 (g r (1 : Nat)), SV.int IntKind.i64 (g r (2 : Nat))])
            false (0 : Nat))]
      [((5 : Nat), (1 : Nat), true, (24 : Nat),
          [[SV.int IntKind.i64 s, SV.int IntKind.i64 (2 : Int), SV.int IntKind.i64 (0 : Int), SV.int IntKind.i64 (1 : Int),
              SV.bool true]])]) := by kernel_rfl
end Go.Proofs.Ythiencdknndagaa
