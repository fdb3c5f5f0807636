import Derived.Test.YtheaeglaebimoaaGreatQa
/- nothing more -/
