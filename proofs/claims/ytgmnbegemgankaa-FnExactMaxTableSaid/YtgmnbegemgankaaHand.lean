/- All of this session's own contracts of the seat. -/
import Derived.Test.YtgmnbegemgankaaHandBase
import Derived.Test.YtgmnbegemgankaaHandSort
import Derived.Test.YtgmnbegemgankaaHandRev
import Derived.Test.YtgmnbegemgankaaHandTab
import Derived.Test.YtgmnbegemgankaaHandTok
import Derived.Test.YtgmnbegemgankaaHandText
