/- The tokens of a text, put together with blanks between them, are cut into the same kinds and texts: the printed law answers true. Condition: none (any text of the model). -/
import Derived.Test.YthpnhmefjdfhfaaPALLx7
import Derived.Test.YthpnhmefjdfhfaaTkBack
namespace Go.Proofs.Ythpnhmefjdfhfaa.Pure
open Go.RowKit Go.Proofs.Ythpnhmefjdfhfaa.PALL Go.Proofs.YthpnhmefjdfhfaaW.PrintWords Go.Proofs.YthpnhmefjdfhfaaW.PrintLast

theorem TokensBack : tollbooklaw12_TokensBack.Pure := Tk.TokensBack_pure

end Go.Proofs.Ythpnhmefjdfhfaa.Pure
