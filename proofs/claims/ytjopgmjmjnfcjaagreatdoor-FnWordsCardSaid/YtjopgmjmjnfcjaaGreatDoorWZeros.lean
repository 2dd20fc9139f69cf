/- Part of the proof; words that it uses. -/
import Derived.Test.YtjopgmjmjnfcjaaGreatDoorWApart
import Derived.Test.YtjopgmjmjnfcjaaGreatDoorWArr
