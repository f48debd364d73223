/-
  Two closed facts on this seat's program that the frame of every law asks.
-/
import Derived.Test.YtknmpfimnbenjaaRows
import Derived.Test.YtknmpfimnbenjaaBase
namespace Go.Proofs.Ytknmpfimnbenjaa
theorem Try.own : ownKnob Try.prog.godebug = none := by kernel_rfl
theorem Try.laidOut : laidOutB Try.prog = true := by kernel_rfl
end Go.Proofs.Ytknmpfimnbenjaa
