/- Several texts of this seat put together by merge.py, without what this claim does not use. -/
import Derived.Test.YtfipacapjfnipaaDoorQmFnExactMillBuiltWN
section
end
