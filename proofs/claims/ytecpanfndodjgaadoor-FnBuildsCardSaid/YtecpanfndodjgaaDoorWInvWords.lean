/- Part of the proof; words that it uses. -/
import Derived.Test.YtecpanfndodjgaaDoorWInv
import Derived.Test.YtecpanfndodjgaaDoorWFootNe
