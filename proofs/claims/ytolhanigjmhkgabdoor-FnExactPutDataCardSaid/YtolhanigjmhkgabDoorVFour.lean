/- Small laws about lists, memory and walks, as the texts of this claim name them: cut by a program out of the printed words. Conditions: those in each head. -/
import Derived.Test.YtolhanigjmhkgabDoorVTab
