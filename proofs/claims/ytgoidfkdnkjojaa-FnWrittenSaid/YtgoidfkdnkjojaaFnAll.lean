/- the functions as the interpreter has them -/
import Derived.Test.YtgoidfkdnkjojaaFn0
import Derived.Test.YtgoidfkdnkjojaaFn1
import Derived.Test.YtgoidfkdnkjojaaFn2
import Derived.Test.YtgoidfkdnkjojaaFn3
import Derived.Test.YtgoidfkdnkjojaaFn4
import Derived.Test.YtgoidfkdnkjojaaFn5
import Derived.Test.YtgoidfkdnkjojaaFn6
