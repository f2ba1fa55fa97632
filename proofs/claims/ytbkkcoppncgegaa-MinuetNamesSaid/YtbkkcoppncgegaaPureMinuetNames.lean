/- The law MinuetNames returns true: every error, limit and kind of package api is the document's number. No condition. -/
import Derived.Test.YtbkkcoppncgegaaPMinuetNamesx1
namespace Go.Proofs.Ytbkkcoppncgegaa.Pure
open Go.RowKit Go.Proofs.Ytbkkcoppncgegaa.PMinuetNames Go.Proofs.YtbkkcoppncgegaaW.PrintWords Go.Proofs.YtbkkcoppncgegaaW.PrintLast

theorem MinuetNames : minuetlaw0_MinuetNames.Pure := by
  unfold minuetlaw0_MinuetNames.Pure
  rfl

end Go.Proofs.Ytbkkcoppncgegaa.Pure
