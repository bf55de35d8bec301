/- KeymapValids: the program's Valid says of every list of bindings what the reference's says. No conditions. -/
import Derived.Test.YtklcndfnboieoaaDoorRVK6
import Derived.Test.YtklcndfnboieoaaDoorRVArgsKeymapValids
namespace Go.Proofs.YtklcndfnboieoaaDoor.Pure
theorem KeymapValids : keymapValids.Pure := fun l hl => K.KeymapValids l (fun b hb => (hl.2.2 b hb).1)
end Go.Proofs.YtklcndfnboieoaaDoor.Pure
