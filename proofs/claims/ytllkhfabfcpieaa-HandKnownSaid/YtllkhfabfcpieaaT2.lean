/-
  What functions of the program come to, way by way: printed by a program, held by the kernel.
-/
import Derived.Test.YtllkhfabfcpieaaX2
namespace Go.Proofs.Ytllkhfabfcpieaa
open Go.RowKit
set_option maxRecDepth 100000

theorem t13 (h : Hd) (a b : Int) (kk : SV → BO → Prop) : evalC C3 64  1 (bodF Try.f13) (enterS 34 [.ptr 0 0 7 0, .agg [.int .i64 a, .int .i64 b]]) (wB h) ( endK Try.prog Try.f13.results.toList (fun v hp => kk v (obsB true (hget hp 0)))) = (
    bif a % (6 : Int) == (0 : Int) then
      ∀ (h' : Hd) (e : Int),
        h' = keysH (Hd.mk h.sv h.e0 h.e1 h.e2 h.va h.cf h.an) (b % (3 : Int)) →
          e = keysE (Hd.mk h.sv h.e0 h.e1 h.e2 h.va h.cf h.an) (b % (3 : Int)) →
            kk (SV.int IntKind.i64 e)
              (BO.rows (7 : Nat) (1 : Nat) true (54 : Nat)
                [[SV.bool h'.sv, SV.int IntKind.i64 h'.e0, SV.int IntKind.i64 h'.e1, SV.int IntKind.i64 h'.e2,
                    SV.bool h'.va, SV.bool h'.cf, SV.bool h'.an]])
    else
      bif a % (6 : Int) == (1 : Int) then
        ∀ (h' : Hd) (e : Int),
          h' = keysH (Hd.mk h.sv h.e0 h.e1 h.e2 h.va h.cf h.an) (b % (3 : Int)) →
            e = keysE (Hd.mk h.sv h.e0 h.e1 h.e2 h.va h.cf h.an) (b % (3 : Int)) →
              kk (SV.int IntKind.i64 e)
                (BO.rows (7 : Nat) (1 : Nat) true (54 : Nat)
                  [[SV.bool h'.sv, SV.int IntKind.i64 h'.e0, SV.int IntKind.i64 h'.e1, SV.int IntKind.i64 h'.e2,
                      SV.bool h'.va, SV.bool h'.cf, SV.bool h'.an]])
      else
        bif a % (6 : Int) == (2 : Int) then
          ∀ (h' : Hd) (e : Int),
            h' = discH (Hd.mk h.sv h.e0 h.e1 h.e2 h.va h.cf h.an) (b % (3 : Int)) →
              e = discE (Hd.mk h.sv h.e0 h.e1 h.e2 h.va h.cf h.an) (b % (3 : Int)) →
                kk (SV.int IntKind.i64 e)
                  (BO.rows (7 : Nat) (1 : Nat) true (54 : Nat)
                    [[SV.bool h'.sv, SV.int IntKind.i64 h'.e0, SV.int IntKind.i64 h'.e1, SV.int IntKind.i64 h'.e2,
                        SV.bool h'.va, SV.bool h'.cf, SV.bool h'.an]])
        else
          bif a % (6 : Int) == (3 : Int) then
            ∀ (h' : Hd) (e : Int),
              h' = valH (Hd.mk h.sv h.e0 h.e1 h.e2 h.va h.cf h.an) →
                e = valE (Hd.mk h.sv h.e0 h.e1 h.e2 h.va h.cf h.an) →
                  kk (SV.int IntKind.i64 e)
                    (BO.rows (7 : Nat) (1 : Nat) true (54 : Nat)
                      [[SV.bool h'.sv, SV.int IntKind.i64 h'.e0, SV.int IntKind.i64 h'.e1, SV.int IntKind.i64 h'.e2,
                          SV.bool h'.va, SV.bool h'.cf, SV.bool h'.an]])
          else
            bif a % (6 : Int) == (4 : Int) then
              ∀ (h' : Hd) (e : Int),
                h' = confH (Hd.mk h.sv h.e0 h.e1 h.e2 h.va h.cf h.an) →
                  e = needsV (Hd.mk h.sv h.e0 h.e1 h.e2 h.va h.cf h.an) (2 : Int) →
                    kk (SV.int IntKind.i64 e)
                      (BO.rows (7 : Nat) (1 : Nat) true (54 : Nat)
                        [[SV.bool h'.sv, SV.int IntKind.i64 h'.e0, SV.int IntKind.i64 h'.e1, SV.int IntKind.i64 h'.e2,
                            SV.bool h'.va, SV.bool h'.cf, SV.bool h'.an]])
            else
              ∀ (h' : Hd) (e : Int),
                h' = ansH (Hd.mk h.sv h.e0 h.e1 h.e2 h.va h.cf h.an) (b % (3 : Int)) →
                  e = needsV (Hd.mk h.sv h.e0 h.e1 h.e2 h.va h.cf h.an) (b % (3 : Int)) →
                    kk (SV.int IntKind.i64 e)
                      (BO.rows (7 : Nat) (1 : Nat) true (54 : Nat)
                        [[SV.bool h'.sv, SV.int IntKind.i64 h'.e0, SV.int IntKind.i64 h'.e1, SV.int IntKind.i64 h'.e2,
                            SV.bool h'.va, SV.bool h'.cf, SV.bool h'.an]])) := by kernel_rfl
theorem t21 (h : Hd) (kk : SV → BO → Prop) : evalC C3 64  1 (bodF Try.f21) (enterS 16 [.ptr 0 0 7 0]) (rB h) ( endK Try.prog Try.f21.results.toList (fun v hp => kk v (obsRes v hp))) = (
    bif livesV (Hd.mk h.sv h.e0 h.e1 h.e2 h.va h.cf h.an) (0 : Int) then
      bif livesV (Hd.mk h.sv h.e0 h.e1 h.e2 h.va h.cf h.an) (1 : Int) then
        bif livesV (Hd.mk h.sv h.e0 h.e1 h.e2 h.va h.cf h.an) (2 : Int) then
          kk (SV.slice (6 : Nat) (0 : Nat) (1 : Nat) (3 : Nat))
            (BO.rows (1 : Nat) (3 : Nat) true (3 : Nat)
              [[SV.int IntKind.i64 (0 : Int)], [SV.int IntKind.i64 (1 : Int)], [SV.int IntKind.i64 (2 : Int)]])
        else
          kk (SV.slice (4 : Nat) (0 : Nat) (1 : Nat) (2 : Nat))
            (BO.rows (1 : Nat) (2 : Nat) true (3 : Nat) [[SV.int IntKind.i64 (0 : Int)], [SV.int IntKind.i64 (1 : Int)]])
      else
        bif livesV (Hd.mk h.sv h.e0 h.e1 h.e2 h.va h.cf h.an) (2 : Int) then
          kk (SV.slice (4 : Nat) (0 : Nat) (1 : Nat) (2 : Nat))
            (BO.rows (1 : Nat) (2 : Nat) true (3 : Nat) [[SV.int IntKind.i64 (0 : Int)], [SV.int IntKind.i64 (2 : Int)]])
        else
          kk (SV.slice (2 : Nat) (0 : Nat) (1 : Nat) (1 : Nat))
            (BO.rows (1 : Nat) (1 : Nat) true (3 : Nat) [[SV.int IntKind.i64 (0 : Int)]])
    else
      bif livesV (Hd.mk h.sv h.e0 h.e1 h.e2 h.va h.cf h.an) (1 : Int) then
        bif livesV (Hd.mk h.sv h.e0 h.e1 h.e2 h.va h.cf h.an) (2 : Int) then
          kk (SV.slice (4 : Nat) (0 : Nat) (1 : Nat) (2 : Nat))
            (BO.rows (1 : Nat) (2 : Nat) true (3 : Nat) [[SV.int IntKind.i64 (1 : Int)], [SV.int IntKind.i64 (2 : Int)]])
        else
          kk (SV.slice (2 : Nat) (0 : Nat) (1 : Nat) (1 : Nat))
            (BO.rows (1 : Nat) (1 : Nat) true (3 : Nat) [[SV.int IntKind.i64 (1 : Int)]])
      else
        bif livesV (Hd.mk h.sv h.e0 h.e1 h.e2 h.va h.cf h.an) (2 : Int) then
          kk (SV.slice (2 : Nat) (0 : Nat) (1 : Nat) (1 : Nat))
            (BO.rows (1 : Nat) (1 : Nat) true (3 : Nat) [[SV.int IntKind.i64 (2 : Int)]])
        else kk SV.nilSlice (BO.raw none)) := by kernel_rfl
theorem t20_00 (kk : SV → Prop) : evalC C0 64  0 (bodF Try.f20) (enterS 26 [.nilSlice, .nilSlice]) [] ( endK Try.prog Try.f20.results.toList (fun r _ => kk r)) = (
    kk (SV.bool true)) := by kernel_rfl
theorem t20_01 (u : Int) (kk : SV → Prop) : evalC C0 64  1 (bodF Try.f20) (enterS 26 [.nilSlice, .slice 0 0 1 1]) [some (bI [u])] ( endK Try.prog Try.f20.results.toList (fun r _ => kk r)) = (
    kk (SV.bool false)) := by kernel_rfl
theorem t20_02 (u v : Int) (kk : SV → Prop) : evalC C0 64  1 (bodF Try.f20) (enterS 26 [.nilSlice, .slice 0 0 1 2]) [some (bI [u, v])] ( endK Try.prog Try.f20.results.toList (fun r _ => kk r)) = (
    kk (SV.bool false)) := by kernel_rfl
theorem t20_03 (u v w : Int) (kk : SV → Prop) : evalC C0 64  1 (bodF Try.f20) (enterS 26 [.nilSlice, .slice 0 0 1 3]) [some (bI [u, v, w])] ( endK Try.prog Try.f20.results.toList (fun r _ => kk r)) = (
    kk (SV.bool false)) := by kernel_rfl
theorem t20_10 (x : Int) (kk : SV → Prop) : evalC C0 64  1 (bodF Try.f20) (enterS 26 [.slice 0 0 1 1, .nilSlice]) [some (bI [x])] ( endK Try.prog Try.f20.results.toList (fun r _ => kk r)) = (
    kk (SV.bool false)) := by kernel_rfl
theorem t20_11 (x u : Int) (kk : SV → Prop) : evalC C0 64  2 (bodF Try.f20) (enterS 26 [.slice 0 0 1 1, .slice 1 0 1 1]) [some (bI [x]), some (bI [u])] ( endK Try.prog Try.f20.results.toList (fun r _ => kk r)) = (
    bif [x].getD (0 : Nat) (0 : Int) != [u].getD (0 : Nat) (0 : Int) then kk (SV.bool false) else kk (SV.bool true)) := by kernel_rfl
theorem t20_12 (x u v : Int) (kk : SV → Prop) : evalC C0 64  2 (bodF Try.f20) (enterS 26 [.slice 0 0 1 1, .slice 1 0 1 2]) [some (bI [x]), some (bI [u, v])] ( endK Try.prog Try.f20.results.toList (fun r _ => kk r)) = (
    kk (SV.bool false)) := by kernel_rfl
theorem t20_13 (x u v w : Int) (kk : SV → Prop) : evalC C0 64  2 (bodF Try.f20) (enterS 26 [.slice 0 0 1 1, .slice 1 0 1 3]) [some (bI [x]), some (bI [u, v, w])] ( endK Try.prog Try.f20.results.toList (fun r _ => kk r)) = (
    kk (SV.bool false)) := by kernel_rfl
theorem t20_20 (x y : Int) (kk : SV → Prop) : evalC C0 64  1 (bodF Try.f20) (enterS 26 [.slice 0 0 1 2, .nilSlice]) [some (bI [x, y])] ( endK Try.prog Try.f20.results.toList (fun r _ => kk r)) = (
    kk (SV.bool false)) := by kernel_rfl
theorem t20_21 (x y u : Int) (kk : SV → Prop) : evalC C0 64  2 (bodF Try.f20) (enterS 26 [.slice 0 0 1 2, .slice 1 0 1 1]) [some (bI [x, y]), some (bI [u])] ( endK Try.prog Try.f20.results.toList (fun r _ => kk r)) = (
    kk (SV.bool false)) := by kernel_rfl
theorem t20_22 (x y u v : Int) (kk : SV → Prop) : evalC C0 64  2 (bodF Try.f20) (enterS 26 [.slice 0 0 1 2, .slice 1 0 1 2]) [some (bI [x, y]), some (bI [u, v])] ( endK Try.prog Try.f20.results.toList (fun r _ => kk r)) = (
    bif [x, y].getD (0 : Nat) (0 : Int) != [u, v].getD (0 : Nat) (0 : Int) then kk (SV.bool false)
    else
      bif [x, y].getD (1 : Nat) (0 : Int) != [u, v].getD (1 : Nat) (0 : Int) then kk (SV.bool false) else kk (SV.bool true)) := by kernel_rfl
theorem t20_23 (x y u v w : Int) (kk : SV → Prop) : evalC C0 64  2 (bodF Try.f20) (enterS 26 [.slice 0 0 1 2, .slice 1 0 1 3]) [some (bI [x, y]), some (bI [u, v, w])] ( endK Try.prog Try.f20.results.toList (fun r _ => kk r)) = (
    kk (SV.bool false)) := by kernel_rfl
theorem t20_30 (x y z : Int) (kk : SV → Prop) : evalC C0 64  1 (bodF Try.f20) (enterS 26 [.slice 0 0 1 3, .nilSlice]) [some (bI [x, y, z])] ( endK Try.prog Try.f20.results.toList (fun r _ => kk r)) = (
    kk (SV.bool false)) := by kernel_rfl
theorem t20_31 (x y z u : Int) (kk : SV → Prop) : evalC C0 64  2 (bodF Try.f20) (enterS 26 [.slice 0 0 1 3, .slice 1 0 1 1]) [some (bI [x, y, z]), some (bI [u])] ( endK Try.prog Try.f20.results.toList (fun r _ => kk r)) = (
    kk (SV.bool false)) := by kernel_rfl
theorem t20_32 (x y z u v : Int) (kk : SV → Prop) : evalC C0 64  2 (bodF Try.f20) (enterS 26 [.slice 0 0 1 3, .slice 1 0 1 2]) [some (bI [x, y, z]), some (bI [u, v])] ( endK Try.prog Try.f20.results.toList (fun r _ => kk r)) = (
    kk (SV.bool false)) := by kernel_rfl
theorem t20_33 (x y z u v w : Int) (kk : SV → Prop) : evalC C0 64  2 (bodF Try.f20) (enterS 26 [.slice 0 0 1 3, .slice 1 0 1 3]) [some (bI [x, y, z]), some (bI [u, v, w])] ( endK Try.prog Try.f20.results.toList (fun r _ => kk r)) = (
    bif [x, y, z].getD (0 : Nat) (0 : Int) != [u, v, w].getD (0 : Nat) (0 : Int) then kk (SV.bool false)
    else
      bif [x, y, z].getD (1 : Nat) (0 : Int) != [u, v, w].getD (1 : Nat) (0 : Int) then kk (SV.bool false)
      else
        bif [x, y, z].getD (2 : Nat) (0 : Int) != [u, v, w].getD (2 : Nat) (0 : Int) then kk (SV.bool false)
        else kk (SV.bool true)) := by kernel_rfl
end Go.Proofs.Ytllkhfabfcpieaa
