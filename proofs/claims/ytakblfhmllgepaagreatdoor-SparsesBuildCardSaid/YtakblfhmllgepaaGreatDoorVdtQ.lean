/- Proved here: parts of the proof: Vdt Sum Dot. Conditions: those that each theorem states. -/
import Derived.Test.YtakblfhmllgepaaGreatDoorMebQ
import Derived.Handy
