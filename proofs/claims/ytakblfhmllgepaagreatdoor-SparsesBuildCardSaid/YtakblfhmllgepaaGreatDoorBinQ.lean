/- Proved here: parts of the proof: Bin Idx Prt. Conditions: those that each theorem states. -/
import Derived.Test.YtakblfhmllgepaaGreatDoorSmaQ
