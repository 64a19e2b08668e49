/- A remark on a line ahead puts all one line down, and changes nothing else: the printed law answers true. Condition: none (any two texts of the model). -/
import Derived.Test.YthpnhmefjdfhfaaTkRemarks
namespace Go.Proofs.Ythpnhmefjdfhfaa.Pure
open Go.RowKit Go.Proofs.Ythpnhmefjdfhfaa.PALL Go.Proofs.YthpnhmefjdfhfaaW.PrintWords Go.Proofs.YthpnhmefjdfhfaaW.PrintLast

theorem TokensRemarks : tollbooklaw12_TokensRemarks.Pure := Tk.TokensRemarks_pure

end Go.Proofs.Ythpnhmefjdfhfaa.Pure
