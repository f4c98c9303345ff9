/- Parts of the proof (18 of 21). -/
import Derived.Shelf.Strconv.ParseIntPublic10
import Derived.Shelf.Strings.Prefix
import Derived.Shelf.Strings.Search1
import Derived.Shelf.Strings.Split
import Derived.Test.YtjifedbidnmapaaQ17
section

end
