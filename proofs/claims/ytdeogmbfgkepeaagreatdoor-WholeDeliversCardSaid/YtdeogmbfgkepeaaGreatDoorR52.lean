/- The law WholeDelivers holds, for every input. No condition. -/
import Derived.Test.YtdeogmbfgkepeaaGreatDoorR09
import Derived.Test.YtdeogmbfgkepeaaGreatDoorR51
set_option linter.unusedVariables false
set_option linter.unusedSimpArgs false
set_option maxRecDepth 100000
set_option maxHeartbeats 64000000
namespace Go.Proofs.YtdeogmbfgkepeaaGreatDoor
open Go.Proofs.Tryz
section
open Go.RowKit HB Go.Maps
theorem fX:bW:=by
 intro s A n c wA wn wk ws W h9 h4 h8 h6 h1 hwl ha h7 h5 h2 h0 h3;have hD:5<W.heap.size:=JG W ⟨_,0,none⟩ (h0 0 (by decide));exact gq s A n c wA wn wk ws W ⟨h1,h4⟩ ⟨h2,hwl⟩ (fun x hx=>bounds_u32 (h5 x hx)) h0 hD (cJ W h3)
end
section
theorem wholeDelivers_holds:Rows.WholeDeliversCardSaid:=fH fX
end
end Go.Proofs.YtdeogmbfgkepeaaGreatDoor
