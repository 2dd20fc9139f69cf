/- Part of the proof; words that it uses. -/
import Derived.Test.YtjopgmjmjnfcjaaGreatDoorWInv
import Derived.Test.YtjopgmjmjnfcjaaGreatDoorWFootNe
