/- A part of the proof of MesgAdds: walks of the functions that it reaches. No condition. -/
import Derived.Test.YtakicgmmpjmniaaZtMeL
import Derived.Test.YtakicgmmpjmniaaZtCw
import Derived.Test.YtakicgmmpjmniaaZmAuto
