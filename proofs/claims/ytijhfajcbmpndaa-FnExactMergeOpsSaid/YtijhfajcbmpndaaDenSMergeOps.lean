/- The contracts on which a sort leans. -/
import Derived.Test.YtijhfajcbmpndaaDen1
