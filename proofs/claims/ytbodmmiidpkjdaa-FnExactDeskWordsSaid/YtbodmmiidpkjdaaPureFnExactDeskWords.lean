/- The pure statement of DeskWords: the program's words and the reference's are the same, and they keep what is written into them. No conditions. -/
import Derived.Test.YtbodmmiidpkjdaaPFnExactDeskWordsx1
namespace Go.Proofs.Ytbodmmiidpkjdaa.Pure
open Go.RowKit Go.Proofs.Ytbodmmiidpkjdaa.PFnExactDeskWords Go.Proofs.YtbodmmiidpkjdaaW.PrintWords Go.Proofs.YtbodmmiidpkjdaaW.PrintLast

theorem FnExactDeskWords : laws_FnExactDeskWords.Pure := ⟨40, by decide +kernel⟩

end Go.Proofs.Ytbodmmiidpkjdaa.Pure
