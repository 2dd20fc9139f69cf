/- Part of the proof: what its walks use. -/
import Derived.Test.YtjopgmjmjnfcjaaWN
