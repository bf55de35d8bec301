/- KeymapBinds: the program's Bind gives what the reference's gives; a good answer is valid and finds what was bound. No conditions. -/
import Derived.Test.YtklcndfnboieoaaDoorRBK7
import Derived.Test.YtklcndfnboieoaaDoorRBArgsKeymapBinds
namespace Go.Proofs.YtklcndfnboieoaaDoor.Pure
theorem KeymapBinds : keymapBinds.Pure := fun l keys n hl _ _ => K.KeymapBinds l keys n (fun b hb => (hl.2.2 b hb).1)
end Go.Proofs.YtklcndfnboieoaaDoor.Pure
