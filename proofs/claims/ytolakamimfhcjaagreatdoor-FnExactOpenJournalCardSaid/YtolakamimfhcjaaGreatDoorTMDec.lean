/- Of the print's words (YtolakamimfhcjaaGreatDoorMathDec) those that this claim's texts name. -/
import Derived.Lib.ItoaNum
