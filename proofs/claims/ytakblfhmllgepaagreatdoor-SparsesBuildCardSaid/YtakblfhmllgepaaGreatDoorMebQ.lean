/- Proved here: parts of the proof: Meb Mad Mtu Mmu. Conditions: those that each theorem states. -/
import Derived.Test.YtakblfhmllgepaaGreatDoorItmQ
