/- AlarmOrder's walk, at whatever number is dropped. -/
import Derived.Test.YtjdeejbpkdgohaaOrder
namespace Go.Proofs.Ytjdeejbpkdgohaa
open Go.RowKit Go.Maps

theorem order_int (a : Option Addr) (len cap : Nat) (g : Nat → Nat → Int) (x : Int) (w : World) (hr : Tup .u8 2 w a len g) (hx : (Lit.int .u8 x).wf = true) :
    Calls Try.prog 4 #[.slice a len cap, .int .u8 x] w fun e w' => e = .returned (.bool true) ∧ Below w.heap.size w w' := by
  obtain ⟨f, rfl, hf⟩ := nat_u8 hx
  exact order_core a len cap g f w hr hf
end Go.Proofs.Ytjdeejbpkdgohaa
