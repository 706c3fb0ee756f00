/- texts joined -/
import Derived.Test.YtpihopepjgefeaaFn
import Derived.Test.YtpihopepjgefeaaFn2
