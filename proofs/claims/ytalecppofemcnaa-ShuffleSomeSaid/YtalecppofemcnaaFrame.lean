/-
  Two closed facts on this seat's program that the frame of every law asks.
-/
import Derived.Test.YtalecppofemcnaaRows
import Derived.Test.YtalecppofemcnaaBase
namespace Go.Proofs.Ytalecppofemcnaa
theorem Try.own : ownKnob Try.prog.godebug = none := by kernel_rfl
theorem Try.laidOut : laidOutB Try.prog = true := by kernel_rfl
end Go.Proofs.Ytalecppofemcnaa
