-- Written by a program of this session (wip/myprint) out of the translation, for YtcpmoolpbeeedaaGreatDoor.
import Derived.Test.YtcpmoolpbeeedaaGreatDoorQ23a
import Derived.Test.YtcpmoolpbeeedaaGreatDoorQ23b
import Derived.Test.YtcpmoolpbeeedaaGreatDoorQ23c
import Derived.Test.YtcpmoolpbeeedaaGreatDoorQ23d
import Derived.Test.YtcpmoolpbeeedaaGreatDoorQ23e
