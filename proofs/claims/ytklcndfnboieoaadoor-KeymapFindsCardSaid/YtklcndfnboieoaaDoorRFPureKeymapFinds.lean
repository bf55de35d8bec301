/- KeymapFinds: the program's Find gives for every list and every keys what the reference's gives. No conditions. -/
import Derived.Test.YtklcndfnboieoaaDoorRFK6
import Derived.Test.YtklcndfnboieoaaDoorRFArgsKeymapFinds
namespace Go.Proofs.YtklcndfnboieoaaDoor.Pure
theorem KeymapFinds : keymapFinds.Pure := fun l keys hl _ => K.KeymapFinds l keys (fun b hb => (hl.2.2 b hb).1)
end Go.Proofs.YtklcndfnboieoaaDoor.Pure
