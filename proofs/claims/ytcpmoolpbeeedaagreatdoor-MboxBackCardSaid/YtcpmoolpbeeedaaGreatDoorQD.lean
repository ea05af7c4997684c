-- The printed texts that the date layer's plain texts speak of.
import Derived.Test.YtcpmoolpbeeedaaGreatDoorQ4
import Derived.Test.YtcpmoolpbeeedaaGreatDoorQ5
import Derived.Test.YtcpmoolpbeeedaaGreatDoorQ6
import Derived.Test.YtcpmoolpbeeedaaGreatDoorQ15
import Derived.Test.YtcpmoolpbeeedaaGreatDoorQ16
import Derived.Test.YtcpmoolpbeeedaaGreatDoorQ17
import Derived.Test.YtcpmoolpbeeedaaGreatDoorQ18
import Derived.Test.YtcpmoolpbeeedaaGreatDoorQ19
