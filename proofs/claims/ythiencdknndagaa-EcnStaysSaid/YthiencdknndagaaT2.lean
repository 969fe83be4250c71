/-
  What functions of the program come to, way by way: printed by a program, held by the kernel.
-/
import Derived.Test.YthiencdknndagaaX4
namespace Go.Proofs.Ythiencdknndagaa
open Go.RowKit
set_option maxRecDepth 100000

theorem p18_0 (n : Nat) (g : Nat → Int) (K : KC) : evalC C0 0 1 c18_0 (enterS 18 [.slice 0 0 1 n]) (hp18 n g) K = (
    K Ex.normal
      [SV.slice (0 : Nat) (0 : Nat) (1 : Nat) n, SV.top, SV.bool false, SV.top, SV.top, SV.top, SV.top, SV.top, SV.top,
        SV.top, SV.top, SV.top, SV.top, SV.top, SV.top, SV.top, SV.top, SV.top]
      [some (Blk.mk (1 : Nat) n (fun r => [SV.int IntKind.i64 (g r)]) false (0 : Nat))]) := by kernel_rfl
theorem p18_1 (n : Nat) (g : Nat → Int) (K : KC) : evalC C0 0 1 c18_1 (.slice 0 0 1 n :: .top :: .bool false :: List.replicate 15 .top) (hp18 n g) K = (
    K Ex.normal
      [SV.slice (0 : Nat) (0 : Nat) (1 : Nat) n, SV.top, SV.bool false, SV.top, SV.top,
        SV.slice (0 : Nat) (0 : Nat) (1 : Nat) n, SV.int IntKind.i64 (↑n : Int), SV.int IntKind.i64 (0 : Int), SV.top,
        SV.top, SV.top, SV.top, SV.top, SV.top, SV.top, SV.top, SV.top, SV.top]
      [some (Blk.mk (1 : Nat) n (fun r => [SV.int IntKind.i64 (g r)]) false (0 : Nat))]) := by kernel_rfl
theorem p18_2 (n i : Nat) (g : Nat → Int) (K : KC) : evalC C0 0 1 c18_2 (fr18 n i) (hp18 n g) K = (
    bif decide ((↑i : Int) < (↑n : Int)) then
      bif decide ((0 : Int) ≤ (↑i : Int)) && decide ((↑i : Int) < (↑n : Int)) then
        bif decide ((0 : Nat) + (↑i : Int).toNat < n) && true then
          bif decide (g ((0 : Nat) + (↑i : Int).toNat) < (0 : Int)) then
            K Ex.ret
              [SV.slice (0 : Nat) (0 : Nat) (1 : Nat) n, SV.top, SV.bool false, SV.top,
                SV.int IntKind.i64 (g ((0 : Nat) + (↑i : Int).toNat)), SV.slice (0 : Nat) (0 : Nat) (1 : Nat) n,
                SV.int IntKind.i64 (↑n : Int), SV.int IntKind.i64 (↑i : Int), SV.bool true,
                SV.ptr (0 : Nat) ((0 : Nat) + (↑i : Int).toNat) (1 : Nat) (0 : Nat),
                SV.int IntKind.i64 (g ((0 : Nat) + (↑i : Int).toNat)),
                SV.int IntKind.i64 (g ((0 : Nat) + (↑i : Int).toNat)),
                SV.bool (decide (g ((0 : Nat) + (↑i : Int).toNat) < (0 : Int))), SV.bool true, SV.top, SV.top, SV.bool true,
                SV.top]
              [some (Blk.mk (1 : Nat) n (fun r => [SV.int IntKind.i64 (g r)]) false (0 : Nat))]
          else
            bif decide ((9007199254740991 : Int) < g ((0 : Nat) + (↑i : Int).toNat)) then
              K Ex.ret
                [SV.slice (0 : Nat) (0 : Nat) (1 : Nat) n, SV.top, SV.bool false, SV.top,
                  SV.int IntKind.i64 (g ((0 : Nat) + (↑i : Int).toNat)), SV.slice (0 : Nat) (0 : Nat) (1 : Nat) n,
                  SV.int IntKind.i64 (↑n : Int), SV.int IntKind.i64 (↑i : Int), SV.bool true,
                  SV.ptr (0 : Nat) ((0 : Nat) + (↑i : Int).toNat) (1 : Nat) (0 : Nat),
                  SV.int IntKind.i64 (g ((0 : Nat) + (↑i : Int).toNat)),
                  SV.int IntKind.i64 (g ((0 : Nat) + (↑i : Int).toNat)),
                  SV.bool (decide (g ((0 : Nat) + (↑i : Int).toNat) < (0 : Int))), SV.bool false,
                  SV.int IntKind.i64 (g ((0 : Nat) + (↑i : Int).toNat)),
                  SV.bool (decide ((9007199254740991 : Int) < g ((0 : Nat) + (↑i : Int).toNat))), SV.bool true, SV.top]
                [some (Blk.mk (1 : Nat) n (fun r => [SV.int IntKind.i64 (g r)]) false (0 : Nat))]
            else
              K Ex.normal
                [SV.slice (0 : Nat) (0 : Nat) (1 : Nat) n, SV.top, SV.bool false, SV.top,
                  SV.int IntKind.i64 (g ((0 : Nat) + (↑i : Int).toNat)), SV.slice (0 : Nat) (0 : Nat) (1 : Nat) n,
                  SV.int IntKind.i64 (↑n : Int), SV.int IntKind.i64 (IntKind.i64.wrap ((↑i : Int) + (1 : Int))),
                  SV.bool true, SV.ptr (0 : Nat) ((0 : Nat) + (↑i : Int).toNat) (1 : Nat) (0 : Nat),
                  SV.int IntKind.i64 (g ((0 : Nat) + (↑i : Int).toNat)),
                  SV.int IntKind.i64 (g ((0 : Nat) + (↑i : Int).toNat)),
                  SV.bool (decide (g ((0 : Nat) + (↑i : Int).toNat) < (0 : Int))), SV.bool false,
                  SV.int IntKind.i64 (g ((0 : Nat) + (↑i : Int).toNat)),
                  SV.bool (decide ((9007199254740991 : Int) < g ((0 : Nat) + (↑i : Int).toNat))), SV.bool false,
                  SV.int IntKind.i64 (IntKind.i64.wrap ((↑i : Int) + (1 : Int)))]
                [some (Blk.mk (1 : Nat) n (fun r => [SV.int IntKind.i64 (g r)]) false (0 : Nat))]
        else False
      else False
    else
      K (Ex.exit (0 : Nat))
        [SV.slice (0 : Nat) (0 : Nat) (1 : Nat) n, SV.top, SV.bool false, SV.top, SV.top,
          SV.slice (0 : Nat) (0 : Nat) (1 : Nat) n, SV.int IntKind.i64 (↑n : Int), SV.int IntKind.i64 (↑i : Int),
          SV.bool false, SV.top, SV.top, SV.top, SV.top, SV.top, SV.top, SV.top, SV.top, SV.top]
        [some (Blk.mk (1 : Nat) n (fun r => [SV.int IntKind.i64 (g r)]) false (0 : Nat))]) := by kernel_rfl
theorem p24_0 (n : Nat) (g : Nat → Bool) (K : KC) : evalC C0 0 1 c24_0 (enterS 13 [.slice 0 0 1 n]) (hp24 n g) K = (
    K Ex.normal
      [SV.slice (0 : Nat) (0 : Nat) (1 : Nat) n, SV.top, SV.bool false, SV.top, SV.top, SV.top, SV.top, SV.top, SV.top,
        SV.top, SV.top, SV.top, SV.top]
      [some (Blk.mk (1 : Nat) n (fun r => [SV.bool (g r)]) false (0 : Nat))]) := by kernel_rfl
theorem p24_1 (n : Nat) (g : Nat → Bool) (K : KC) : evalC C0 0 1 c24_1 (.slice 0 0 1 n :: .top :: .bool false :: List.replicate 10 .top) (hp24 n g) K = (
    K Ex.normal
      [SV.slice (0 : Nat) (0 : Nat) (1 : Nat) n, SV.top, SV.bool false, SV.top, SV.top,
        SV.slice (0 : Nat) (0 : Nat) (1 : Nat) n, SV.int IntKind.i64 (↑n : Int), SV.int IntKind.i64 (0 : Int), SV.top,
        SV.top, SV.top, SV.top, SV.top]
      [some (Blk.mk (1 : Nat) n (fun r => [SV.bool (g r)]) false (0 : Nat))]) := by kernel_rfl
theorem p24_2 (n i : Nat) (g : Nat → Bool) (K : KC) : evalC C0 0 1 c24_2 (fr24 n i) (hp24 n g) K = (
    bif decide ((↑i : Int) < (↑n : Int)) then
      bif decide ((0 : Int) ≤ (↑i : Int)) && decide ((↑i : Int) < (↑n : Int)) then
        bif decide ((0 : Nat) + (↑i : Int).toNat < n) && true then
          bif g ((0 : Nat) + (↑i : Int).toNat) then
            K Ex.ret
              [SV.slice (0 : Nat) (0 : Nat) (1 : Nat) n, SV.top, SV.bool true, SV.top,
                SV.bool (g ((0 : Nat) + (↑i : Int).toNat)), SV.slice (0 : Nat) (0 : Nat) (1 : Nat) n,
                SV.int IntKind.i64 (↑n : Int), SV.int IntKind.i64 (↑i : Int), SV.bool true,
                SV.ptr (0 : Nat) ((0 : Nat) + (↑i : Int).toNat) (1 : Nat) (0 : Nat),
                SV.bool (g ((0 : Nat) + (↑i : Int).toNat)), SV.bool true, SV.top]
              [some (Blk.mk (1 : Nat) n (fun r => [SV.bool (g r)]) false (0 : Nat))]
          else
            K Ex.normal
              [SV.slice (0 : Nat) (0 : Nat) (1 : Nat) n, SV.top, SV.bool false, SV.top,
                SV.bool (g ((0 : Nat) + (↑i : Int).toNat)), SV.slice (0 : Nat) (0 : Nat) (1 : Nat) n,
                SV.int IntKind.i64 (↑n : Int), SV.int IntKind.i64 (IntKind.i64.wrap ((↑i : Int) + (1 : Int))), SV.bool true,
                SV.ptr (0 : Nat) ((0 : Nat) + (↑i : Int).toNat) (1 : Nat) (0 : Nat),
                SV.bool (g ((0 : Nat) + (↑i : Int).toNat)), SV.bool false,
                SV.int IntKind.i64 (IntKind.i64.wrap ((↑i : Int) + (1 : Int)))]
              [some (Blk.mk (1 : Nat) n (fun r => [SV.bool (g r)]) false (0 : Nat))]
        else False
      else False
    else
      K (Ex.exit (0 : Nat))
        [SV.slice (0 : Nat) (0 : Nat) (1 : Nat) n, SV.top, SV.bool false, SV.top, SV.top,
          SV.slice (0 : Nat) (0 : Nat) (1 : Nat) n, SV.int IntKind.i64 (↑n : Int), SV.int IntKind.i64 (↑i : Int),
          SV.bool false, SV.top, SV.top, SV.top, SV.top]
        [some (Blk.mk (1 : Nat) n (fun r => [SV.bool (g r)]) false (0 : Nat))]) := by kernel_rfl
end Go.Proofs.Ythiencdknndagaa
