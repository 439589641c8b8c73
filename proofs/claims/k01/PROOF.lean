import PyProof.Rows.All
import Wide.All
import OpenK.AllK
import Wide.FinOn
import PySem.Challenge.RW_probetests_k01_errors_by_their_classes
open PySem PySem.W PySem.W.X PyProof.Rows
set_option Elab.async false
set_option maxRecDepth 100000 in
set_option maxHeartbeats 0 in
theorem PySem.Challenge.cw_probetests_k01_errors_by_their_classes_holds : PySem.Challenge.rw_probetests_k01_errors_by_their_classes.Holds := by
  open_z
