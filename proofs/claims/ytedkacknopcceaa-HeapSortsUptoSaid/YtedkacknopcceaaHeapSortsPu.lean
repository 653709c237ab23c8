/- HeapSorts: the pure statement. Conditions: none. -/
import Derived.Test.YtedkacknopcceaaHeapSortsS
namespace Go.Proofs.Ytedkacknopcceaa.SHeapSorts
theorem pure : Pure := fun _ _ _ _ => ⟨0, rfl⟩
end Go.Proofs.Ytedkacknopcceaa.SHeapSorts
