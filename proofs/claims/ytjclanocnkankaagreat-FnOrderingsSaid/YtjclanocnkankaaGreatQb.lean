/- the equations stand in Qa -/
import Derived.Test.YtjclanocnkankaaGreatQa
