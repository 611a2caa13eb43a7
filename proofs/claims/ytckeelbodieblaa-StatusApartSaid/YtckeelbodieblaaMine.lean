/- Nothing of its own. -/
import Derived.Test.YtckeelbodieblaaWWords
