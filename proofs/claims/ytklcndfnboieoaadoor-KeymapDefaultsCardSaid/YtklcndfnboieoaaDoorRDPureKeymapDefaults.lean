/- KeymapDefaults: Default is the reference's list, it is valid, and Find finds each of its bindings. No conditions. -/
import Derived.Test.YtklcndfnboieoaaDoorRDK6
import Derived.Test.YtklcndfnboieoaaDoorRDArgsKeymapDefaults
namespace Go.Proofs.YtklcndfnboieoaaDoor.Pure
theorem KeymapDefaults : keymapDefaults.Pure := fun s _ => K.KeymapDefaults s
end Go.Proofs.YtklcndfnboieoaaDoor.Pure
