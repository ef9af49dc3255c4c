/- The digits of a number: the library's word for them. -/
import Derived.Lib.ItoaNum
