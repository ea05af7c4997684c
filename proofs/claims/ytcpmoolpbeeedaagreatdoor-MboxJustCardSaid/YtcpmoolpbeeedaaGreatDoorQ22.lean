-- Written by a program of this session (wip/myprint) out of the translation, for YtcpmoolpbeeedaaGreatDoor.
import Derived.Test.YtcpmoolpbeeedaaGreatDoorQ22a
import Derived.Test.YtcpmoolpbeeedaaGreatDoorQ22b
import Derived.Test.YtcpmoolpbeeedaaGreatDoorQ22c
import Derived.Test.YtcpmoolpbeeedaaGreatDoorQ22d
