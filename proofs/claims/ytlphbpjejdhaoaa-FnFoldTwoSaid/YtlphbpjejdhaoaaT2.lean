/- The tables of the program, read: the reader's type stands with the others. No condition. -/
import Derived.Test.YtlphbpjejdhaoaaT
