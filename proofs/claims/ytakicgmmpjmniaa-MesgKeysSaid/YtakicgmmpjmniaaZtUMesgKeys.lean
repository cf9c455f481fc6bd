/- A part of the proof of MesgKeys: walks of the functions that it reaches. No condition. -/
import Derived.Test.YtakicgmmpjmniaaZtMeK
import Derived.Test.YtakicgmmpjmniaaZtCu
import Derived.Test.YtakicgmmpjmniaaZmAuto
