/- the functions as the interpreter has them -/
import Derived.Test.YtgoidfkdnkjojaaGreatFn0
import Derived.Test.YtgoidfkdnkjojaaGreatFn1
import Derived.Test.YtgoidfkdnkjojaaGreatFn2
import Derived.Test.YtgoidfkdnkjojaaGreatFn3
import Derived.Test.YtgoidfkdnkjojaaGreatFn4
import Derived.Test.YtgoidfkdnkjojaaGreatFn5
