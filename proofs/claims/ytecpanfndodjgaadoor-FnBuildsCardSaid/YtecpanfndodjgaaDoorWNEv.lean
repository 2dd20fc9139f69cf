/- Part of the proof; words that it uses. -/
import Derived.Test.YtecpanfndodjgaaDoorWN
