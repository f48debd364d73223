/- The law WholeBins holds, for every input. No condition. -/
import Derived.Test.YtdeogmbfgkepeaaGreatDoorQ09
import Derived.Test.YtdeogmbfgkepeaaGreatDoorQ51
set_option linter.unusedVariables false
set_option linter.unusedSimpArgs false
set_option maxRecDepth 100000
set_option maxHeartbeats 64000000
namespace Go.Proofs.YtdeogmbfgkepeaaGreatDoor
open Go.Proofs.Tryz
section
open Go.RowKit HB Go.Maps
theorem Wi:xC:=by
 intro s A n c wA wn wk ws W hwf hsl hnc hcm hrd hwl hwk hkm hwz hrw htab hsh;have hD:5<W.heap.size:=World.block_lt_of_cell? W ⟨_,0,none⟩ (htab 0 (by decide));exact ag s A n c wA wn wk ws W ⟨hrd,hsl⟩ ⟨hrw,hwl⟩ (fun x hx=>bounds_u32 (hwz x hx)) htab hD (cJ W hsh)
end
section
theorem wholeBins_holds:Rows.WholeBinsCardSaid:=Zn Wi
end
end Go.Proofs.YtdeogmbfgkepeaaGreatDoor
