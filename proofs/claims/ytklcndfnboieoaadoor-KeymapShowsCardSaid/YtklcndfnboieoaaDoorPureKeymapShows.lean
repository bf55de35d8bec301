/- KeymapShows: for every string of at most 300 bytes Show answers as the reference's Show, writes bytes from 32 to 126 only, and Parse reads back what it wrote. No conditions. -/
import Derived.Test.YtklcndfnboieoaaDoorK4
import Derived.Test.YtklcndfnboieoaaDoorArgsKeymapShows
namespace Go.Proofs.YtklcndfnboieoaaDoor.Pure
theorem KeymapShows : keymapShows.Pure := K.KeymapShows
end Go.Proofs.YtklcndfnboieoaaDoor.Pure
