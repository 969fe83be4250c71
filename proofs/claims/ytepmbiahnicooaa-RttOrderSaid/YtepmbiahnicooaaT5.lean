/-
  What functions of the program come to, way by way: printed by a program, held by the kernel.
-/
import Derived.Test.YtepmbiahnicooaaX5
namespace Go.Proofs.Ytepmbiahnicooaa
open Go.RowKit
set_option maxRecDepth 100000

theorem t9e  (kk : SV → Prop) : evalF C8 64 Try.f9 [.eslice] [] (fun v _ => kk v) = (
    Tp3 (5 : Int) (0 : Int) (1 : Int) ∧
      ∀ (l m s v f : Int),
        Run1 (5 : Int) (0 : Int) (1 : Int) l m s v f →
          bif m != (5 : Int) then kk (SV.bool false)
          else
            bif l != (5 : Int) then kk (SV.bool false)
            else
              bif f != (1 : Int) then kk (SV.bool false)
              else
                bif decide (s < (5 : Int)) then kk (SV.bool false)
                else
                  bif decide ((5 : Int) < s) then kk (SV.bool false)
                  else
                    bif decide (v < (0 : Int)) then kk (SV.bool false)
                    else
                      bif decide ((5 : Int) < v) then kk (SV.bool false)
                      else
                        bif chkE l m s v f != (0 : Int) then kk (SV.bool false)
                        else
                          bif greatV l m s v f != if (5 : Int) > s then (5 : Int) else s then kk (SV.bool false)
                          else kk (SV.bool true)) := by kernel_rfl
theorem t6e  (kk : SV → Prop) : evalF C8 64 Try.f6 [.eslice, .eslice] [] (fun v _ => kk v) = (
    Tp3 (5 : Int) (0 : Int) (1 : Int) ∧
      ∀ (l m s v f : Int),
        Run1 (5 : Int) (0 : Int) (1 : Int) l m s v f →
          Tp3 (5 : Int) (0 : Int) (1 : Int) ∧
            ∀ (l m_1 s_1 v f : Int),
              Run1 (5 : Int) (0 : Int) (1 : Int) l m_1 s_1 v f →
                bif decide (s ≤ s_1) then bif decide (m ≤ m_1) then kk (SV.bool true) else kk (SV.bool false)
                else kk (SV.bool false)) := by kernel_rfl
theorem t6k (k : Nat) (e : Nat → Int) (Kt : KT) : evalC C8 64  1 (bodF Try.f6) (enterS 77 [.eslice, .slice 0 0 1 k]) [some (bR k e)] ( obs [4] [] Kt) = (
    bif decide ((0 : Int) < (↑k : Int)) then
      bif (↑k : Int) == (0 : Int) then False
      else
        bif decide (Int.tmod (0 : Int) (↑k : Int) < (↑k : Int)) then
          bif decide ((0 : Nat) < k) && true then
            ∀ (r : Int),
              BrP (e (0 : Nat)) (9007199254740987 : Int) r →
                Tp3 (5 : Int) (0 : Int) (1 : Int) ∧
                  ∀ (l m s v f : Int),
                    Run1 (5 : Int) (0 : Int) (1 : Int) l m s v f →
                      Tp3 (IntKind.i64.wrap ((5 : Int) + r)) (0 : Int) (1 : Int) ∧
                        ∀ (l m_1 s_1 v f : Int),
                          Run1 (IntKind.i64.wrap ((5 : Int) + r)) (0 : Int) (1 : Int) l m_1 s_1 v f →
                            bif decide (s ≤ s_1) then
                              bif decide (m ≤ m_1) then Kt Ex.ret (77 : Nat) [SV.bool true] []
                              else Kt Ex.ret (77 : Nat) [SV.bool false] []
                            else Kt Ex.ret (77 : Nat) [SV.bool false] []
          else False
        else False
    else
      Tp3 (5 : Int) (0 : Int) (1 : Int) ∧
        ∀ (l m s v f : Int),
          Run1 (5 : Int) (0 : Int) (1 : Int) l m s v f →
            Tp3 (5 : Int) (0 : Int) (1 : Int) ∧
              ∀ (l m_1 s_1 v f : Int),
                Run1 (5 : Int) (0 : Int) (1 : Int) l m_1 s_1 v f →
                  bif decide (s ≤ s_1) then
                    bif decide (m ≤ m_1) then Kt Ex.ret (77 : Nat) [SV.bool true] []
                    else Kt Ex.ret (77 : Nat) [SV.bool false] []
                  else Kt Ex.ret (77 : Nat) [SV.bool false] []) := by kernel_rfl
theorem p6a (n : Nat) (g : Nat → Nat → Int) (k : Nat) (e : Nat → Int) (Kt : KT) : evalC C6 0  2 (.seq c6_0 (.seq c6_1 (.seq c6_2 .skip))) (enterS 77 [.slice 0 0 3 n, (.slice 1 0 1 k)]) [some (bT n g), (some (bR k e))] ( obsN L6 [false, false, false] Kt) = (
    Raw3
        (Blk.mk (3 : Nat) n
          (fun r =>
            [SV.int IntKind.i64 (g r (0 : Nat)), SV.int IntKind.i64 (g r (1 : Nat)), SV.int IntKind.i64 (g r (2 : Nat))])
          false (0 : Nat))
        n ∧
      ∀ (N : Nat) (g_1 : Nat → Nat → Int),
        BrgP false N g_1 →
          bif N.beq (1 : Nat) then
            Kt Ex.normal (77 : Nat)
              [SV.slice (2 : Nat) (0 : Nat) (3 : Nat) N, SV.slice (1 : Nat) (0 : Nat) (1 : Nat) k, SV.bool false,
                SV.nilSlice, SV.top]
              [BO.raw
                  (some
                    (Blk.mk (3 : Nat) n
                      (fun r =>
                        [SV.int IntKind.i64 (g r (0 : Nat)), SV.int IntKind.i64 (g r (1 : Nat)),
                          SV.int IntKind.i64 (g r (2 : Nat))])
                      false (0 : Nat))),
                BO.raw (some (Blk.mk (1 : Nat) k (fun r => [SV.int IntKind.i64 (e r)]) false (0 : Nat))),
                BO.raw
                  (some
                    (Blk.mk (3 : Nat) N
                      (fun r =>
                        bif r.beq (0 : Nat) then
                          [SV.int IntKind.i64 (g_1 (0 : Nat) (0 : Nat)), SV.int IntKind.i64 (g_1 (0 : Nat) (1 : Nat)),
                            SV.int IntKind.i64 (g_1 (0 : Nat) (2 : Nat))]
                        else
                          (fun r =>
                              [SV.int IntKind.i64 (g_1 r (0 : Nat)), SV.int IntKind.i64 (g_1 r (1 : Nat)),
                                SV.int IntKind.i64 (g_1 r (2 : Nat))])
                            r)
                      true (32 : Nat)))]
          else
            Kt Ex.normal (77 : Nat)
              [SV.slice (2 : Nat) (0 : Nat) (3 : Nat) N, SV.slice (1 : Nat) (0 : Nat) (1 : Nat) k, SV.bool false,
                SV.nilSlice, SV.top]
              [BO.raw
                  (some
                    (Blk.mk (3 : Nat) n
                      (fun r =>
                        [SV.int IntKind.i64 (g r (0 : Nat)), SV.int IntKind.i64 (g r (1 : Nat)),
                          SV.int IntKind.i64 (g r (2 : Nat))])
                      false (0 : Nat))),
                BO.raw (some (Blk.mk (1 : Nat) k (fun r => [SV.int IntKind.i64 (e r)]) false (0 : Nat))),
                BO.raw
                  (some
                    (Blk.mk (3 : Nat) N
                      (fun r =>
                        [SV.int IntKind.i64 (g_1 r (0 : Nat)), SV.int IntKind.i64 (g_1 r (1 : Nat)),
                          SV.int IntKind.i64 (g_1 r (2 : Nat))])
                      true (32 : Nat)))]) := by kernel_rfl
theorem p6s (n : Nat) (g : Nat → Nat → Int) (k : Nat) (e : Nat → Int) (N : Nat) (q : Nat → Nat → Int) (Kt : KT) : evalC C6 0  2 c6_3 (tplF 77 L6 (v6 N (.slice 1 0 1 k) .nilSlice .top)) ((h6 n g (some (bR k e)) N q).map mkB) ( obsN L6 [false, false, false] Kt) = (
    Kt Ex.normal (77 : Nat)
      [SV.slice (2 : Nat) (0 : Nat) (3 : Nat) N, SV.slice (1 : Nat) (0 : Nat) (1 : Nat) k, SV.bool false, SV.nilSlice,
        SV.int IntKind.i64 (0 : Int)]
      [BO.raw
          (some
            (Blk.mk (3 : Nat) n
              (fun r =>
                [SV.int IntKind.i64 (g r (0 : Nat)), SV.int IntKind.i64 (g r (1 : Nat)),
                  SV.int IntKind.i64 (g r (2 : Nat))])
              false (0 : Nat))),
        BO.raw (some (Blk.mk (1 : Nat) k (fun r => [SV.int IntKind.i64 (e r)]) false (0 : Nat))),
        BO.raw
          (some
            (Blk.mk (3 : Nat) N
              (fun r =>
                [SV.int IntKind.i64 (q r (0 : Nat)), SV.int IntKind.i64 (q r (1 : Nat)),
                  SV.int IntKind.i64 (q r (2 : Nat))])
              true (32 : Nat)))]) := by kernel_rfl
theorem p6rn (n : Nat) (g : Nat → Nat → Int) (k : Nat) (e : Nat → Int) (N : Nat) (q : Nat → Nat → Int) (i : Nat) (Kt : KT) : evalC C6 0  2 c6_4 (tplF 77 L6 (v6 N (.slice 1 0 1 k) .nilSlice (.int .i64 i))) ((h6 n g (some (bR k e)) N q).map mkB) ( obsN L6 [false, false, false, true, true, true] Kt) = (
    bif decide ((↑i : Int) < (↑N : Int)) then
      bif decide ((↑i : Int) < (↑N : Int)) then
        bif decide ((0 : Nat) + (↑i : Int).toNat < N) && true then
          bif decide ((0 : Int) < (↑k : Int)) then
            bif (↑k : Int) == (0 : Int) then False
            else
              bif decide ((↑i : Int).tmod (↑k : Int) < (↑k : Int)) then
                bif decide ((0 : Nat) + ((↑i : Int).tmod (↑k : Int)).toNat < k) && true then
                  bif
                      decide
                          ((0 : Int) <
                            IntKind.i64.wrap ((9007199254740992 : Int) - q ((0 : Nat) + (↑i : Int).toNat) (0 : Nat))) &&
                        decide
                          (IntKind.i64.wrap ((9007199254740992 : Int) - q ((0 : Nat) + (↑i : Int).toNat) (0 : Nat)) ≤
                            (9223372036854775807 : Int)) then
                    ∀ (r : Int),
                      BrP (e ((0 : Nat) + ((↑i : Int).tmod (↑k : Int)).toNat))
                          (IntKind.i64.wrap ((9007199254740992 : Int) - q ((0 : Nat) + (↑i : Int).toNat) (0 : Nat))) r →
                        Kt Ex.normal (77 : Nat)
                          [SV.slice (2 : Nat) (0 : Nat) (3 : Nat) N, SV.slice (1 : Nat) (0 : Nat) (1 : Nat) k,
                            SV.bool false, SV.slice (5 : Nat) (0 : Nat) (3 : Nat) (1 : Nat),
                            SV.int IntKind.i64 (IntKind.i64.wrap ((↑i : Int) + (1 : Int)))]
                          [BO.raw
                              (some
                                (Blk.mk (3 : Nat) n
                                  (fun r =>
                                    [SV.int IntKind.i64 (g r (0 : Nat)), SV.int IntKind.i64 (g r (1 : Nat)),
                                      SV.int IntKind.i64 (g r (2 : Nat))])
                                  false (0 : Nat))),
                            BO.raw (some (Blk.mk (1 : Nat) k (fun r => [SV.int IntKind.i64 (e r)]) false (0 : Nat))),
                            BO.raw
                              (some
                                (Blk.mk (3 : Nat) N
                                  (fun r =>
                                    [SV.int IntKind.i64 (q r (0 : Nat)), SV.int IntKind.i64 (q r (1 : Nat)),
                                      SV.int IntKind.i64 (q r (2 : Nat))])
                                  true (32 : Nat))),
                            BO.rows (3 : Nat) (1 : Nat) true (32 : Nat)
                              [[SV.int IntKind.i64 (IntKind.i64.wrap (q ((0 : Nat) + (↑i : Int).toNat) (0 : Nat) + r)),
                                  SV.int IntKind.i64 (q ((0 : Nat) + (↑i : Int).toNat) (1 : Nat)),
                                  SV.int IntKind.i64 (q ((0 : Nat) + (↑i : Int).toNat) (2 : Nat))]],
                            BO.rows (3 : Nat) (1 : Nat) true (32 : Nat)
                              [[SV.int IntKind.i64 (IntKind.i64.wrap (q ((0 : Nat) + (↑i : Int).toNat) (0 : Nat) + r)),
                                  SV.int IntKind.i64 (q ((0 : Nat) + (↑i : Int).toNat) (1 : Nat)),
                                  SV.int IntKind.i64 (q ((0 : Nat) + (↑i : Int).toNat) (2 : Nat))]],
                            BO.rows (3 : Nat) (1 : Nat) true (32 : Nat)
                              [[SV.int IntKind.i64 (IntKind.i64.wrap (q ((0 : Nat) + (↑i : Int).toNat) (0 : Nat) + r)),
                                  SV.int IntKind.i64 (q ((0 : Nat) + (↑i : Int).toNat) (1 : Nat)),
                                  SV.int IntKind.i64 (q ((0 : Nat) + (↑i : Int).toNat) (2 : Nat))]]]
                  else False
                else False
              else False
          else
            Kt Ex.normal (77 : Nat)
              [SV.slice (2 : Nat) (0 : Nat) (3 : Nat) N, SV.slice (1 : Nat) (0 : Nat) (1 : Nat) k, SV.bool false,
                SV.slice (5 : Nat) (0 : Nat) (3 : Nat) (1 : Nat),
                SV.int IntKind.i64 (IntKind.i64.wrap ((↑i : Int) + (1 : Int)))]
              [BO.raw
                  (some
                    (Blk.mk (3 : Nat) n
                      (fun r =>
                        [SV.int IntKind.i64 (g r (0 : Nat)), SV.int IntKind.i64 (g r (1 : Nat)),
                          SV.int IntKind.i64 (g r (2 : Nat))])
                      false (0 : Nat))),
                BO.raw (some (Blk.mk (1 : Nat) k (fun r => [SV.int IntKind.i64 (e r)]) false (0 : Nat))),
                BO.raw
                  (some
                    (Blk.mk (3 : Nat) N
                      (fun r =>
                        [SV.int IntKind.i64 (q r (0 : Nat)), SV.int IntKind.i64 (q r (1 : Nat)),
                          SV.int IntKind.i64 (q r (2 : Nat))])
                      true (32 : Nat))),
                BO.rows (3 : Nat) (1 : Nat) true (32 : Nat)
                  [[SV.int IntKind.i64 (q ((0 : Nat) + (↑i : Int).toNat) (0 : Nat)),
                      SV.int IntKind.i64 (q ((0 : Nat) + (↑i : Int).toNat) (1 : Nat)),
                      SV.int IntKind.i64 (q ((0 : Nat) + (↑i : Int).toNat) (2 : Nat))]],
                BO.rows (3 : Nat) (1 : Nat) true (32 : Nat)
                  [[SV.int IntKind.i64 (q ((0 : Nat) + (↑i : Int).toNat) (0 : Nat)),
                      SV.int IntKind.i64 (q ((0 : Nat) + (↑i : Int).toNat) (1 : Nat)),
                      SV.int IntKind.i64 (q ((0 : Nat) + (↑i : Int).toNat) (2 : Nat))]],
                BO.rows (3 : Nat) (1 : Nat) true (32 : Nat)
                  [[SV.int IntKind.i64 (q ((0 : Nat) + (↑i : Int).toNat) (0 : Nat)),
                      SV.int IntKind.i64 (q ((0 : Nat) + (↑i : Int).toNat) (1 : Nat)),
                      SV.int IntKind.i64 (q ((0 : Nat) + (↑i : Int).toNat) (2 : Nat))]]]
        else False
      else False
    else
      Kt (Ex.exit (0 : Nat)) (77 : Nat)
        [SV.slice (2 : Nat) (0 : Nat) (3 : Nat) N, SV.slice (1 : Nat) (0 : Nat) (1 : Nat) k, SV.bool false, SV.nilSlice,
          SV.int IntKind.i64 (↑i : Int)]
        [BO.raw
            (some
              (Blk.mk (3 : Nat) n
                (fun r =>
                  [SV.int IntKind.i64 (g r (0 : Nat)), SV.int IntKind.i64 (g r (1 : Nat)),
                    SV.int IntKind.i64 (g r (2 : Nat))])
                false (0 : Nat))),
          BO.raw (some (Blk.mk (1 : Nat) k (fun r => [SV.int IntKind.i64 (e r)]) false (0 : Nat))),
          BO.raw
            (some
              (Blk.mk (3 : Nat) N
                (fun r =>
                  [SV.int IntKind.i64 (q r (0 : Nat)), SV.int IntKind.i64 (q r (1 : Nat)),
                    SV.int IntKind.i64 (q r (2 : Nat))])
                true (32 : Nat))),
          BO.raw none, BO.raw none, BO.raw none]) := by kernel_rfl
theorem p6rs (n : Nat) (g : Nat → Nat → Int) (k : Nat) (e : Nat → Int) (N : Nat) (q : Nat → Nat → Int) (M : Nat) (p : Nat → Nat → Int) (i : Nat) (Kt : KT) : evalC C6 0  2 c6_4 (tplF 77 L6 (v6 N (.slice 1 0 1 k) (.slice 3 0 3 (M + 1)) (.int .i64 i))) ((h6s n g (some (bR k e)) N q (M + 1) p).map mkB) ( obsN L6 [false, false, false, false, true, true, false] Kt) = (
    bif decide ((↑i : Int) < (↑N : Int)) then
      bif decide ((↑i : Int) < (↑N : Int)) then
        bif decide ((0 : Nat) + (↑i : Int).toNat < N) && true then
          bif decide ((0 : Int) < (↑k : Int)) then
            bif (↑k : Int) == (0 : Int) then False
            else
              bif decide ((↑i : Int).tmod (↑k : Int) < (↑k : Int)) then
                bif decide ((0 : Nat) + ((↑i : Int).tmod (↑k : Int)).toNat < k) && true then
                  bif
                      decide
                          ((0 : Int) <
                            IntKind.i64.wrap ((9007199254740992 : Int) - q ((0 : Nat) + (↑i : Int).toNat) (0 : Nat))) &&
                        decide
                          (IntKind.i64.wrap ((9007199254740992 : Int) - q ((0 : Nat) + (↑i : Int).toNat) (0 : Nat)) ≤
                            (9223372036854775807 : Int)) then
                    ∀ (r : Int),
                      BrP (e ((0 : Nat) + ((↑i : Int).tmod (↑k : Int)).toNat))
                          (IntKind.i64.wrap ((9007199254740992 : Int) - q ((0 : Nat) + (↑i : Int).toNat) (0 : Nat))) r →
                        bif
                            decide (M + (1 : Nat) + (1 : Nat) ≤ (9223372036854775807 : Nat)) &&
                                          decide ((M + (1 : Nat) + (1 : Nat)) * (24 : Nat) ≤ (140737488355328 : Nat)) &&
                                        true &&
                                      true &&
                                    true &&
                                  true &&
                                decide (M + (1 : Nat) = M + (1 : Nat)) &&
                              true then
                          Kt Ex.normal (77 : Nat)
                            [SV.slice (2 : Nat) (0 : Nat) (3 : Nat) N, SV.slice (1 : Nat) (0 : Nat) (1 : Nat) k,
                              SV.bool false, SV.slice (6 : Nat) (0 : Nat) (3 : Nat) (M + (1 : Nat) + (1 : Nat)),
                              SV.int IntKind.i64 (IntKind.i64.wrap ((↑i : Int) + (1 : Int)))]
                            [BO.raw
                                (some
                                  (Blk.mk (3 : Nat) n
                                    (fun r =>
                                      [SV.int IntKind.i64 (g r (0 : Nat)), SV.int IntKind.i64 (g r (1 : Nat)),
                                        SV.int IntKind.i64 (g r (2 : Nat))])
                                    false (0 : Nat))),
                              BO.raw (some (Blk.mk (1 : Nat) k (fun r => [SV.int IntKind.i64 (e r)]) false (0 : Nat))),
                              BO.raw
                                (some
                                  (Blk.mk (3 : Nat) N
                                    (fun r =>
                                      [SV.int IntKind.i64 (q r (0 : Nat)), SV.int IntKind.i64 (q r (1 : Nat)),
                                        SV.int IntKind.i64 (q r (2 : Nat))])
                                    true (32 : Nat))),
                              BO.raw none,
                              BO.rows (3 : Nat) (1 : Nat) true (32 : Nat)
                                [[SV.int IntKind.i64 (IntKind.i64.wrap (q ((0 : Nat) + (↑i : Int).toNat) (0 : Nat) + r)),
                                    SV.int IntKind.i64 (q ((0 : Nat) + (↑i : Int).toNat) (1 : Nat)),
                                    SV.int IntKind.i64 (q ((0 : Nat) + (↑i : Int).toNat) (2 : Nat))]],
                              BO.rows (3 : Nat) (1 : Nat) true (32 : Nat)
                                [[SV.int IntKind.i64 (IntKind.i64.wrap (q ((0 : Nat) + (↑i : Int).toNat) (0 : Nat) + r)),
                                    SV.int IntKind.i64 (q ((0 : Nat) + (↑i : Int).toNat) (1 : Nat)),
                                    SV.int IntKind.i64 (q ((0 : Nat) + (↑i : Int).toNat) (2 : Nat))]],
                              BO.raw
                                (some
                                  (Blk.mk (3 : Nat) (M + (1 : Nat) + (1 : Nat))
                                    (fun r_1 =>
                                      bif decide (r_1 < M + (1 : Nat)) then (bW (M + (1 : Nat)) p).rd r_1
                                      else
                                        (fun i_1 =>
                                            (Blk.mk C6.P.types[(32 : Nat)].size (1 : Nat)
                                                  (fun r_2 =>
                                                    bif r_2.beq (0 : Nat) then
                                                      [SV.int IntKind.i64
                                                          (IntKind.i64.wrap
                                                            (q ((0 : Nat) + (↑i : Int).toNat) (0 : Nat) + r)),
                                                        SV.int IntKind.i64 (q ((0 : Nat) + (↑i : Int).toNat) (1 : Nat)),
                                                        SV.int IntKind.i64 (q ((0 : Nat) + (↑i : Int).toNat) (2 : Nat))]
                                                    else
                                                      (fun r_3 =>
                                                          List.take C6.P.types[(32 : Nat)].size
                                                            (List.drop (r_3 * C6.P.types[(32 : Nat)].size)
                                                              [SV.int IntKind.i64
                                                                  (IntKind.i64.wrap
                                                                    (q ((0 : Nat) + (↑i : Int).toNat) (0 : Nat) + r)),
                                                                SV.int IntKind.i64
                                                                  (q ((0 : Nat) + (↑i : Int).toNat) (1 : Nat)),
                                                                SV.int IntKind.i64
                                                                  (q ((0 : Nat) + (↑i : Int).toNat) (2 : Nat))]))
                                                        r_2)
                                                  true (32 : Nat)).rd
                                              ((0 : Nat) + i_1))
                                          (r_1 - (M + (1 : Nat))))
                                    true (32 : Nat)))]
                        else False
                  else False
                else False
              else False
          else
            bif
                decide (M + (1 : Nat) + (1 : Nat) ≤ (9223372036854775807 : Nat)) &&
                              decide ((M + (1 : Nat) + (1 : Nat)) * (24 : Nat) ≤ (140737488355328 : Nat)) &&
                            true &&
                          true &&
                        true &&
                      true &&
                    decide (M + (1 : Nat) = M + (1 : Nat)) &&
                  true then
              Kt Ex.normal (77 : Nat)
                [SV.slice (2 : Nat) (0 : Nat) (3 : Nat) N, SV.slice (1 : Nat) (0 : Nat) (1 : Nat) k, SV.bool false,
                  SV.slice (6 : Nat) (0 : Nat) (3 : Nat) (M + (1 : Nat) + (1 : Nat)),
                  SV.int IntKind.i64 (IntKind.i64.wrap ((↑i : Int) + (1 : Int)))]
                [BO.raw
                    (some
                      (Blk.mk (3 : Nat) n
                        (fun r =>
                          [SV.int IntKind.i64 (g r (0 : Nat)), SV.int IntKind.i64 (g r (1 : Nat)),
                            SV.int IntKind.i64 (g r (2 : Nat))])
                        false (0 : Nat))),
                  BO.raw (some (Blk.mk (1 : Nat) k (fun r => [SV.int IntKind.i64 (e r)]) false (0 : Nat))),
                  BO.raw
                    (some
                      (Blk.mk (3 : Nat) N
                        (fun r =>
                          [SV.int IntKind.i64 (q r (0 : Nat)), SV.int IntKind.i64 (q r (1 : Nat)),
                            SV.int IntKind.i64 (q r (2 : Nat))])
                        true (32 : Nat))),
                  BO.raw none,
                  BO.rows (3 : Nat) (1 : Nat) true (32 : Nat)
                    [[SV.int IntKind.i64 (q ((0 : Nat) + (↑i : Int).toNat) (0 : Nat)),
                        SV.int IntKind.i64 (q ((0 : Nat) + (↑i : Int).toNat) (1 : Nat)),
                        SV.int IntKind.i64 (q ((0 : Nat) + (↑i : Int).toNat) (2 : Nat))]],
                  BO.rows (3 : Nat) (1 : Nat) true (32 : Nat)
                    [[SV.int IntKind.i64 (q ((0 : Nat) + (↑i : Int).toNat) (0 : Nat)),
                        SV.int IntKind.i64 (q ((0 : Nat) + (↑i : Int).toNat) (1 : Nat)),
                        SV.int IntKind.i64 (q ((0 : Nat) + (↑i : Int).toNat) (2 : Nat))]],
                  BO.raw
                    (some
                      (Blk.mk (3 : Nat) (M + (1 : Nat) + (1 : Nat))
                        (fun r =>
                          bif decide (r < M + (1 : Nat)) then (bW (M + (1 : Nat)) p).rd r
                          else
                            (fun i_1 =>
                                (Blk.mk C6.P.types[(32 : Nat)].size (1 : Nat)
                                      (fun r =>
                                        bif r.beq (0 : Nat) then
                                          [SV.int IntKind.i64 (q ((0 : Nat) + (↑i : Int).toNat) (0 : Nat)),
                                            SV.int IntKind.i64 (q ((0 : Nat) + (↑i : Int).toNat) (1 : Nat)),
                                            SV.int IntKind.i64 (q ((0 : Nat) + (↑i : Int).toNat) (2 : Nat))]
                                        else
                                          (fun r =>
                                              List.take C6.P.types[(32 : Nat)].size
                                                (List.drop (r * C6.P.types[(32 : Nat)].size)
                                                  [SV.int IntKind.i64 (q ((0 : Nat) + (↑i : Int).toNat) (0 : Nat)),
                                                    SV.int IntKind.i64 (q ((0 : Nat) + (↑i : Int).toNat) (1 : Nat)),
                                                    SV.int IntKind.i64 (q ((0 : Nat) + (↑i : Int).toNat) (2 : Nat))]))
                                            r)
                                      true (32 : Nat)).rd
                                  ((0 : Nat) + i_1))
                              (r - (M + (1 : Nat))))
                        true (32 : Nat)))]
            else False
        else False
      else False
    else
      Kt (Ex.exit (0 : Nat)) (77 : Nat)
        [SV.slice (2 : Nat) (0 : Nat) (3 : Nat) N, SV.slice (1 : Nat) (0 : Nat) (1 : Nat) k, SV.bool false,
          SV.slice (3 : Nat) (0 : Nat) (3 : Nat) (M + (1 : Nat)), SV.int IntKind.i64 (↑i : Int)]
        [BO.raw
            (some
              (Blk.mk (3 : Nat) n
                (fun r =>
                  [SV.int IntKind.i64 (g r (0 : Nat)), SV.int IntKind.i64 (g r (1 : Nat)),
                    SV.int IntKind.i64 (g r (2 : Nat))])
                false (0 : Nat))),
          BO.raw (some (Blk.mk (1 : Nat) k (fun r => [SV.int IntKind.i64 (e r)]) false (0 : Nat))),
          BO.raw
            (some
              (Blk.mk (3 : Nat) N
                (fun r =>
                  [SV.int IntKind.i64 (q r (0 : Nat)), SV.int IntKind.i64 (q r (1 : Nat)),
                    SV.int IntKind.i64 (q r (2 : Nat))])
                true (32 : Nat))),
          BO.raw
            (some
              (Blk.mk (3 : Nat) (M + (1 : Nat))
                (fun r =>
                  [SV.int IntKind.i64 (p r (0 : Nat)), SV.int IntKind.i64 (p r (1 : Nat)),
                    SV.int IntKind.i64 (p r (2 : Nat))])
                true (32 : Nat))),
          BO.raw none, BO.raw none, BO.raw none]) := by kernel_rfl
theorem p6e (n : Nat) (g : Nat → Nat → Int) (k : Nat) (e : Nat → Int) (N : Nat) (q : Nat → Nat → Int) (M : Nat) (p : Nat → Nat → Int) (i : Nat) (Kt : KT) : evalC C6 0  2 c6_5 (tplF 77 L6 (v6 N (.slice 1 0 1 k) (.slice 3 0 3 (M + 1)) (.int .i64 i))) ((h6s n g (some (bR k e)) N q (M + 1) p).map mkB) ( obs [4] [] Kt) = (
    ∃ g,
      N.le (1000 : Nat) ∧
        RowsAre
            (Blk.mk (3 : Nat) N
              (fun r =>
                [SV.int IntKind.i64 (q r (0 : Nat)), SV.int IntKind.i64 (q r (1 : Nat)),
                  SV.int IntKind.i64 (q r (2 : Nat))])
              true (32 : Nat))
            N g ∧
          ∀ (l m s v f : Int),
            RunP g N l m s v f →
              ∃ g,
                (M + (1 : Nat)).le (1000 : Nat) ∧
                  RowsAre
                      (Blk.mk (3 : Nat) (M + (1 : Nat))
                        (fun r =>
                          [SV.int IntKind.i64 (p r (0 : Nat)), SV.int IntKind.i64 (p r (1 : Nat)),
                            SV.int IntKind.i64 (p r (2 : Nat))])
                        true (32 : Nat))
                      (M + (1 : Nat)) g ∧
                    ∀ (l m_1 s_1 v f : Int),
                      RunP g (M + (1 : Nat)) l m_1 s_1 v f →
                        bif decide (s ≤ s_1) then
                          bif decide (m ≤ m_1) then Kt Ex.ret (77 : Nat) [SV.bool true] []
                          else Kt Ex.ret (77 : Nat) [SV.bool false] []
                        else Kt Ex.ret (77 : Nat) [SV.bool false] []) := by kernel_rfl
theorem p6ax (n : Nat) (g : Nat → Nat → Int) (Kt : KT) : evalC C6 0  2 (.seq c6_0 (.seq c6_1 (.seq c6_2 .skip))) (enterS 77 [.slice 0 0 3 n, .eslice]) [some (bT n g), none] ( obsN L6 [false, false, false] Kt) = (
    Raw3
        (Blk.mk (3 : Nat) n
          (fun r =>
            [SV.int IntKind.i64 (g r (0 : Nat)), SV.int IntKind.i64 (g r (1 : Nat)), SV.int IntKind.i64 (g r (2 : Nat))])
          false (0 : Nat))
        n ∧
      ∀ (N : Nat) (g_1 : Nat → Nat → Int),
        BrgP false N g_1 →
          bif N.beq (1 : Nat) then
            Kt Ex.normal (77 : Nat)
              [SV.slice (2 : Nat) (0 : Nat) (3 : Nat) N, SV.eslice, SV.bool false, SV.nilSlice, SV.top]
              [BO.raw
                  (some
                    (Blk.mk (3 : Nat) n
                      (fun r =>
                        [SV.int IntKind.i64 (g r (0 : Nat)), SV.int IntKind.i64 (g r (1 : Nat)),
                          SV.int IntKind.i64 (g r (2 : Nat))])
                      false (0 : Nat))),
                BO.raw none,
                BO.raw
                  (some
                    (Blk.mk (3 : Nat) N
                      (fun r =>
                        bif r.beq (0 : Nat) then
                          [SV.int IntKind.i64 (g_1 (0 : Nat) (0 : Nat)), SV.int IntKind.i64 (g_1 (0 : Nat) (1 : Nat)),
                            SV.int IntKind.i64 (g_1 (0 : Nat) (2 : Nat))]
                        else
                          (fun r =>
                              [SV.int IntKind.i64 (g_1 r (0 : Nat)), SV.int IntKind.i64 (g_1 r (1 : Nat)),
                                SV.int IntKind.i64 (g_1 r (2 : Nat))])
                            r)
                      true (32 : Nat)))]
          else
            Kt Ex.normal (77 : Nat)
              [SV.slice (2 : Nat) (0 : Nat) (3 : Nat) N, SV.eslice, SV.bool false, SV.nilSlice, SV.top]
              [BO.raw
                  (some
                    (Blk.mk (3 : Nat) n
                      (fun r =>
                        [SV.int IntKind.i64 (g r (0 : Nat)), SV.int IntKind.i64 (g r (1 : Nat)),
                          SV.int IntKind.i64 (g r (2 : Nat))])
                      false (0 : Nat))),
                BO.raw none,
                BO.raw
                  (some
                    (Blk.mk (3 : Nat) N
                      (fun r =>
                        [SV.int IntKind.i64 (g_1 r (0 : Nat)), SV.int IntKind.i64 (g_1 r (1 : Nat)),
                          SV.int IntKind.i64 (g_1 r (2 : Nat))])
                      true (32 : Nat)))]) := by kernel_rfl
theorem p6sx (n : Nat) (g : Nat → Nat → Int) (N : Nat) (q : Nat → Nat → Int) (Kt : KT) : evalC C6 0  2 c6_3 (tplF 77 L6 (v6 N .eslice .nilSlice .top)) ((h6 n g none N q).map mkB) ( obsN L6 [false, false, false] Kt) = (
    Kt Ex.normal (77 : Nat)
      [SV.slice (2 : Nat) (0 : Nat) (3 : Nat) N, SV.eslice, SV.bool false, SV.nilSlice, SV.int IntKind.i64 (0 : Int)]
      [BO.raw
          (some
            (Blk.mk (3 : Nat) n
              (fun r =>
                [SV.int IntKind.i64 (g r (0 : Nat)), SV.int IntKind.i64 (g r (1 : Nat)),
                  SV.int IntKind.i64 (g r (2 : Nat))])
              false (0 : Nat))),
        BO.raw none,
        BO.raw
          (some
            (Blk.mk (3 : Nat) N
              (fun r =>
                [SV.int IntKind.i64 (q r (0 : Nat)), SV.int IntKind.i64 (q r (1 : Nat)),
                  SV.int IntKind.i64 (q r (2 : Nat))])
              true (32 : Nat)))]) := by kernel_rfl
theorem p6rnx (n : Nat) (g : Nat → Nat → Int) (N : Nat) (q : Nat → Nat → Int) (i : Nat) (Kt : KT) : evalC C6 0  2 c6_4 (tplF 77 L6 (v6 N .eslice .nilSlice (.int .i64 i))) ((h6 n g none N q).map mkB) ( obsN L6 [false, false, false, true, true, true] Kt) = (
    bif decide ((↑i : Int) < (↑N : Int)) then
      bif decide ((↑i : Int) < (↑N : Int)) then
        bif decide ((0 : Nat) + (↑i : Int).toNat < N) && true then
          Kt Ex.normal (77 : Nat)
            [SV.slice (2 : Nat) (0 : Nat) (3 : Nat) N, SV.eslice, SV.bool false,
              SV.slice (5 : Nat) (0 : Nat) (3 : Nat) (1 : Nat),
              SV.int IntKind.i64 (IntKind.i64.wrap ((↑i : Int) + (1 : Int)))]
            [BO.raw
                (some
                  (Blk.mk (3 : Nat) n
                    (fun r =>
                      [SV.int IntKind.i64 (g r (0 : Nat)), SV.int IntKind.i64 (g r (1 : Nat)),
                        SV.int IntKind.i64 (g r (2 : Nat))])
                    false (0 : Nat))),
              BO.raw none,
              BO.raw
                (some
                  (Blk.mk (3 : Nat) N
                    (fun r =>
                      [SV.int IntKind.i64 (q r (0 : Nat)), SV.int IntKind.i64 (q r (1 : Nat)),
                        SV.int IntKind.i64 (q r (2 : Nat))])
                    true (32 : Nat))),
              BO.rows (3 : Nat) (1 : Nat) true (32 : Nat)
                [[SV.int IntKind.i64 (q ((0 : Nat) + (↑i : Int).toNat) (0 : Nat)),
                    SV.int IntKind.i64 (q ((0 : Nat) + (↑i : Int).toNat) (1 : Nat)),
                    SV.int IntKind.i64 (q ((0 : Nat) + (↑i : Int).toNat) (2 : Nat))]],
              BO.rows (3 : Nat) (1 : Nat) true (32 : Nat)
                [[SV.int IntKind.i64 (q ((0 : Nat) + (↑i : Int).toNat) (0 : Nat)),
                    SV.int IntKind.i64 (q ((0 : Nat) + (↑i : Int).toNat) (1 : Nat)),
                    SV.int IntKind.i64 (q ((0 : Nat) + (↑i : Int).toNat) (2 : Nat))]],
              BO.rows (3 : Nat) (1 : Nat) true (32 : Nat)
                [[SV.int IntKind.i64 (q ((0 : Nat) + (↑i : Int).toNat) (0 : Nat)),
                    SV.int IntKind.i64 (q ((0 : Nat) + (↑i : Int).toNat) (1 : Nat)),
                    SV.int IntKind.i64 (q ((0 : Nat) + (↑i : Int).toNat) (2 : Nat))]]]
        else False
      else False
    else
      Kt (Ex.exit (0 : Nat)) (77 : Nat)
        [SV.slice (2 : Nat) (0 : Nat) (3 : Nat) N, SV.eslice, SV.bool false, SV.nilSlice, SV.int IntKind.i64 (↑i : Int)]
        [BO.raw
            (some
              (Blk.mk (3 : Nat) n
                (fun r =>
                  [SV.int IntKind.i64 (g r (0 : Nat)), SV.int IntKind.i64 (g r (1 : Nat)),
                    SV.int IntKind.i64 (g r (2 : Nat))])
                false (0 : Nat))),
          BO.raw none,
          BO.raw
            (some
              (Blk.mk (3 : Nat) N
                (fun r =>
                  [SV.int IntKind.i64 (q r (0 : Nat)), SV.int IntKind.i64 (q r (1 : Nat)),
                    SV.int IntKind.i64 (q r (2 : Nat))])
                true (32 : Nat))),
          BO.raw none, BO.raw none, BO.raw none]) := by kernel_rfl
theorem p6rsx (n : Nat) (g : Nat → Nat → Int) (N : Nat) (q : Nat → Nat → Int) (M : Nat) (p : Nat → Nat → Int) (i : Nat) (Kt : KT) : evalC C6 0  2 c6_4 (tplF 77 L6 (v6 N .eslice (.slice 3 0 3 (M + 1)) (.int .i64 i))) ((h6s n g none N q (M + 1) p).map mkB) ( obsN L6 [false, false, false, false, true, true, false] Kt) = (
    bif decide ((↑i : Int) < (↑N : Int)) then
      bif decide ((↑i : Int) < (↑N : Int)) then
        bif decide ((0 : Nat) + (↑i : Int).toNat < N) && true then
          bif
              decide (M + (1 : Nat) + (1 : Nat) ≤ (9223372036854775807 : Nat)) &&
                            decide ((M + (1 : Nat) + (1 : Nat)) * (24 : Nat) ≤ (140737488355328 : Nat)) &&
                          true &&
                        true &&
                      true &&
                    true &&
                  decide (M + (1 : Nat) = M + (1 : Nat)) &&
                true then
            Kt Ex.normal (77 : Nat)
              [SV.slice (2 : Nat) (0 : Nat) (3 : Nat) N, SV.eslice, SV.bool false,
                SV.slice (6 : Nat) (0 : Nat) (3 : Nat) (M + (1 : Nat) + (1 : Nat)),
                SV.int IntKind.i64 (IntKind.i64.wrap ((↑i : Int) + (1 : Int)))]
              [BO.raw
                  (some
                    (Blk.mk (3 : Nat) n
                      (fun r =>
                        [SV.int IntKind.i64 (g r (0 : Nat)), SV.int IntKind.i64 (g r (1 : Nat)),
                          SV.int IntKind.i64 (g r (2 : Nat))])
                      false (0 : Nat))),
                BO.raw none,
                BO.raw
                  (some
                    (Blk.mk (3 : Nat) N
                      (fun r =>
                        [SV.int IntKind.i64 (q r (0 : Nat)), SV.int IntKind.i64 (q r (1 : Nat)),
                          SV.int IntKind.i64 (q r (2 : Nat))])
                      true (32 : Nat))),
                BO.raw none,
                BO.rows (3 : Nat) (1 : Nat) true (32 : Nat)
                  [[SV.int IntKind.i64 (q ((0 : Nat) + (↑i : Int).toNat) (0 : Nat)),
                      SV.int IntKind.i64 (q ((0 : Nat) + (↑i : Int).toNat) (1 : Nat)),
                      SV.int IntKind.i64 (q ((0 : Nat) + (↑i : Int).toNat) (2 : Nat))]],
                BO.rows (3 : Nat) (1 : Nat) true (32 : Nat)
                  [[SV.int IntKind.i64 (q ((0 : Nat) + (↑i : Int).toNat) (0 : Nat)),
                      SV.int IntKind.i64 (q ((0 : Nat) + (↑i : Int).toNat) (1 : Nat)),
                      SV.int IntKind.i64 (q ((0 : Nat) + (↑i : Int).toNat) (2 : Nat))]],
                BO.raw
                  (some
                    (Blk.mk (3 : Nat) (M + (1 : Nat) + (1 : Nat))
                      (fun r =>
                        bif decide (r < M + (1 : Nat)) then (bW (M + (1 : Nat)) p).rd r
                        else
                          (fun i_1 =>
                              (Blk.mk C6.P.types[(32 : Nat)].size (1 : Nat)
                                    (fun r =>
                                      bif r.beq (0 : Nat) then
                                        [SV.int IntKind.i64 (q ((0 : Nat) + (↑i : Int).toNat) (0 : Nat)),
                                          SV.int IntKind.i64 (q ((0 : Nat) + (↑i : Int).toNat) (1 : Nat)),
                                          SV.int IntKind.i64 (q ((0 : Nat) + (↑i : Int).toNat) (2 : Nat))]
                                      else
                                        (fun r =>
                                            List.take C6.P.types[(32 : Nat)].size
                                              (List.drop (r * C6.P.types[(32 : Nat)].size)
                                                [SV.int IntKind.i64 (q ((0 : Nat) + (↑i : Int).toNat) (0 : Nat)),
                                                  SV.int IntKind.i64 (q ((0 : Nat) + (↑i : Int).toNat) (1 : Nat)),
                                                  SV.int IntKind.i64 (q ((0 : Nat) + (↑i : Int).toNat) (2 : Nat))]))
                                          r)
                                    true (32 : Nat)).rd
                                ((0 : Nat) + i_1))
                            (r - (M + (1 : Nat))))
                      true (32 : Nat)))]
          else False
        else False
      else False
    else
      Kt (Ex.exit (0 : Nat)) (77 : Nat)
        [SV.slice (2 : Nat) (0 : Nat) (3 : Nat) N, SV.eslice, SV.bool false,
          SV.slice (3 : Nat) (0 : Nat) (3 : Nat) (M + (1 : Nat)), SV.int IntKind.i64 (↑i : Int)]
        [BO.raw
            (some
              (Blk.mk (3 : Nat) n
                (fun r =>
                  [SV.int IntKind.i64 (g r (0 : Nat)), SV.int IntKind.i64 (g r (1 : Nat)),
                    SV.int IntKind.i64 (g r (2 : Nat))])
                false (0 : Nat))),
          BO.raw none,
          BO.raw
            (some
              (Blk.mk (3 : Nat) N
                (fun r =>
                  [SV.int IntKind.i64 (q r (0 : Nat)), SV.int IntKind.i64 (q r (1 : Nat)),
                    SV.int IntKind.i64 (q r (2 : Nat))])
                true (32 : Nat))),
          BO.raw
            (some
              (Blk.mk (3 : Nat) (M + (1 : Nat))
                (fun r =>
                  [SV.int IntKind.i64 (p r (0 : Nat)), SV.int IntKind.i64 (p r (1 : Nat)),
                    SV.int IntKind.i64 (p r (2 : Nat))])
                true (32 : Nat))),
          BO.raw none, BO.raw none, BO.raw none]) := by kernel_rfl
theorem p6ex (n : Nat) (g : Nat → Nat → Int) (N : Nat) (q : Nat → Nat → Int) (M : Nat) (p : Nat → Nat → Int) (i : Nat) (Kt : KT) : evalC C6 0  2 c6_5 (tplF 77 L6 (v6 N .eslice (.slice 3 0 3 (M + 1)) (.int .i64 i))) ((h6s n g none N q (M + 1) p).map mkB) ( obs [4] [] Kt) = (
    ∃ g,
      N.le (1000 : Nat) ∧
        RowsAre
            (Blk.mk (3 : Nat) N
              (fun r =>
                [SV.int IntKind.i64 (q r (0 : Nat)), SV.int IntKind.i64 (q r (1 : Nat)),
                  SV.int IntKind.i64 (q r (2 : Nat))])
              true (32 : Nat))
            N g ∧
          ∀ (l m s v f : Int),
            RunP g N l m s v f →
              ∃ g,
                (M + (1 : Nat)).le (1000 : Nat) ∧
                  RowsAre
                      (Blk.mk (3 : Nat) (M + (1 : Nat))
                        (fun r =>
                          [SV.int IntKind.i64 (p r (0 : Nat)), SV.int IntKind.i64 (p r (1 : Nat)),
                            SV.int IntKind.i64 (p r (2 : Nat))])
                        true (32 : Nat))
                      (M + (1 : Nat)) g ∧
                    ∀ (l m_1 s_1 v f : Int),
                      RunP g (M + (1 : Nat)) l m_1 s_1 v f →
                        bif decide (s ≤ s_1) then
                          bif decide (m ≤ m_1) then Kt Ex.ret (77 : Nat) [SV.bool true] []
                          else Kt Ex.ret (77 : Nat) [SV.bool false] []
                        else Kt Ex.ret (77 : Nat) [SV.bool false] []) := by kernel_rfl
end Go.Proofs.Ytepmbiahnicooaa
