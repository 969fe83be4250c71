/-
  What functions of the program come to, way by way: printed by a program, held by the kernel.
-/
import Derived.Test.YtllkhfabfcpieaaX5
namespace Go.Proofs.Ytllkhfabfcpieaa
open Go.RowKit
set_option maxRecDepth 100000

theorem p5d_100 (n : Nat) (g : Nat → Nat → Int) (sv va cf an : Bool) (kk : SV → Prop) : evalC C7 64  1 c5_5 (tplF 106 L5 (v5 n .top)) ((h5 n g ⟨sv, 1, 0, 0, va, cf, an⟩ true false false false false false).map mkB) ( endK Try.prog Try.f5.results.toList (fun v _ => kk v)) = (
    kk (SV.bool true)) := by kernel_rfl
theorem p5d_101 (n : Nat) (g : Nat → Nat → Int) (sv va cf an : Bool) (kk : SV → Prop) : evalC C7 64  1 c5_5 (tplF 106 L5 (v5 n .top)) ((h5 n g ⟨sv, 1, 0, 1, va, cf, an⟩ true false true false false false).map mkB) ( endK Try.prog Try.f5.results.toList (fun v _ => kk v)) = (
    kk (SV.bool true)) := by kernel_rfl
theorem p5d_110 (n : Nat) (g : Nat → Nat → Int) (sv va cf an : Bool) (kk : SV → Prop) : evalC C7 64  1 c5_5 (tplF 106 L5 (v5 n .top)) ((h5 n g ⟨sv, 1, 1, 0, va, cf, an⟩ true true false false false false).map mkB) ( endK Try.prog Try.f5.results.toList (fun v _ => kk v)) = (
    kk (SV.bool true)) := by kernel_rfl
theorem p5d_111 (n : Nat) (g : Nat → Nat → Int) (sv va cf an : Bool) (kk : SV → Prop) : evalC C7 64  1 c5_5 (tplF 106 L5 (v5 n .top)) ((h5 n g ⟨sv, 1, 1, 1, va, cf, an⟩ true true true false false false).map mkB) ( endK Try.prog Try.f5.results.toList (fun v _ => kk v)) = (
    kk (SV.bool true)) := by kernel_rfl
theorem p5d_120 (n : Nat) (g : Nat → Nat → Int) (sv va cf an : Bool) (kk : SV → Prop) : evalC C7 64  1 c5_5 (tplF 106 L5 (v5 n .top)) ((h5 n g ⟨sv, 1, 2, 0, va, cf, an⟩ true true false false true false).map mkB) ( endK Try.prog Try.f5.results.toList (fun v _ => kk v)) = (
    kk (SV.bool true)) := by kernel_rfl
theorem p5d_121 (n : Nat) (g : Nat → Nat → Int) (sv va cf an : Bool) (kk : SV → Prop) : evalC C7 64  1 c5_5 (tplF 106 L5 (v5 n .top)) ((h5 n g ⟨sv, 1, 2, 1, va, cf, an⟩ true true true false true false).map mkB) ( endK Try.prog Try.f5.results.toList (fun v _ => kk v)) = (
    kk (SV.bool true)) := by kernel_rfl
theorem p5d_200 (n : Nat) (g : Nat → Nat → Int) (sv va cf an : Bool) (kk : SV → Prop) : evalC C7 64  1 c5_5 (tplF 106 L5 (v5 n .top)) ((h5 n g ⟨sv, 2, 0, 0, va, cf, an⟩ true false false true false false).map mkB) ( endK Try.prog Try.f5.results.toList (fun v _ => kk v)) = (
    kk (SV.bool true)) := by kernel_rfl
theorem p5d_201 (n : Nat) (g : Nat → Nat → Int) (sv va cf an : Bool) (kk : SV → Prop) : evalC C7 64  1 c5_5 (tplF 106 L5 (v5 n .top)) ((h5 n g ⟨sv, 2, 0, 1, va, cf, an⟩ true false true true false false).map mkB) ( endK Try.prog Try.f5.results.toList (fun v _ => kk v)) = (
    kk (SV.bool true)) := by kernel_rfl
theorem p5d_210 (n : Nat) (g : Nat → Nat → Int) (sv va cf an : Bool) (kk : SV → Prop) : evalC C7 64  1 c5_5 (tplF 106 L5 (v5 n .top)) ((h5 n g ⟨sv, 2, 1, 0, va, cf, an⟩ true true false true false false).map mkB) ( endK Try.prog Try.f5.results.toList (fun v _ => kk v)) = (
    kk (SV.bool true)) := by kernel_rfl
theorem p5d_211 (n : Nat) (g : Nat → Nat → Int) (sv va cf an : Bool) (kk : SV → Prop) : evalC C7 64  1 c5_5 (tplF 106 L5 (v5 n .top)) ((h5 n g ⟨sv, 2, 1, 1, va, cf, an⟩ true true true true false false).map mkB) ( endK Try.prog Try.f5.results.toList (fun v _ => kk v)) = (
    kk (SV.bool true)) := by kernel_rfl
theorem p5d_220 (n : Nat) (g : Nat → Nat → Int) (sv va cf an : Bool) (kk : SV → Prop) : evalC C7 64  1 c5_5 (tplF 106 L5 (v5 n .top)) ((h5 n g ⟨sv, 2, 2, 0, va, cf, an⟩ true true false true true false).map mkB) ( endK Try.prog Try.f5.results.toList (fun v _ => kk v)) = (
    kk (SV.bool true)) := by kernel_rfl
theorem p5d_221 (n : Nat) (g : Nat → Nat → Int) (sv va cf an : Bool) (kk : SV → Prop) : evalC C7 64  1 c5_5 (tplF 106 L5 (v5 n .top)) ((h5 n g ⟨sv, 2, 2, 1, va, cf, an⟩ true true true true true false).map mkB) ( endK Try.prog Try.f5.results.toList (fun v _ => kk v)) = (
    kk (SV.bool true)) := by kernel_rfl
end Go.Proofs.Ytllkhfabfcpieaa
