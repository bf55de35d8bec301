/- KeymapParses: for every notation the program's Parse and the reference's Parse give the same keys and the same error, and the chapter's examples hold. No conditions. -/
import Derived.Test.YtklcndfnboieoaaDoorK3
import Derived.Test.YtklcndfnboieoaaDoorArgsKeymapParses
namespace Go.Proofs.YtklcndfnboieoaaDoor.Pure
theorem KeymapParses : keymapParses.Pure := K.KeymapParses
end Go.Proofs.YtklcndfnboieoaaDoor.Pure
