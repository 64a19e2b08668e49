/- What is refused is refused alike, whatever stands behind the line of its place: the printed law answers true. Condition: none (any two texts of the model). -/
import Derived.Test.YthpnhmefjdfhfaaPALLx9
import Derived.Test.YthpnhmefjdfhfaaTkRefused
namespace Go.Proofs.Ythpnhmefjdfhfaa.Pure
open Go.RowKit Go.Proofs.Ythpnhmefjdfhfaa.PALL Go.Proofs.YthpnhmefjdfhfaaW.PrintWords Go.Proofs.YthpnhmefjdfhfaaW.PrintLast

theorem TokensRefused : tollbooklaw12_TokensRefused.Pure := Tk.TokensRefused_pure

end Go.Proofs.Ythpnhmefjdfhfaa.Pure
