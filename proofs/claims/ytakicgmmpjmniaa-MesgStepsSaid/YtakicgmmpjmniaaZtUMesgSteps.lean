/- A part of the proof of MesgSteps: walks of the functions that it reaches. No condition. -/
import Derived.Test.YtakicgmmpjmniaaZtMeR
import Derived.Test.YtakicgmmpjmniaaZtCv
import Derived.Test.YtakicgmmpjmniaaZmAuto
