/- A part of the proof of MesgForms: walks of the functions that it reaches. No condition. -/
import Derived.Test.YtakicgmmpjmniaaZtMeS
import Derived.Test.YtakicgmmpjmniaaZmAuto
