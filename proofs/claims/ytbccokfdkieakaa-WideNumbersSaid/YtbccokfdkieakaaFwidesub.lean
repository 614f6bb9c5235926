/- wide.sub stands beside wide.add. -/
import Derived.Test.YtbccokfdkieakaaFwideadd
