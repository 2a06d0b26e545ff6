/- TopTampers: for every input the call returns true; part HF0 of the proof. -/
import Derived.Test.YtadggjnohohedaaGreatDoorHT
import Derived.KernelRfl
namespace Go.Proofs.YtadggjnohohedaaGreatDoor
namespace EV
noncomputable section
open Go.RowKit
set_option maxRecDepth 100000
theorem t0_0_0:allN (topR Z1_0 Z2_0 Z3_0 0 0) 32 0=true:=by kernel_rfl
theorem t0_0_1:allN (topR Z1_0 Z2_0 Z3_0 0 0) 32 32=true:=by kernel_rfl
theorem t0_0_2:allN (topR Z1_0 Z2_0 Z3_0 0 0) 32 64=true:=by kernel_rfl
theorem t0_0_3:allN (topR Z1_0 Z2_0 Z3_0 0 0) 32 96=true:=by kernel_rfl
theorem t0_0_4:allN (topR Z1_0 Z2_0 Z3_0 0 0) 32 128=true:=by kernel_rfl
theorem t0_0_5:allN (topR Z1_0 Z2_0 Z3_0 0 0) 32 160=true:=by kernel_rfl
theorem t0_0_6:allN (topR Z1_0 Z2_0 Z3_0 0 0) 32 192=true:=by kernel_rfl
theorem t0_0_7:allN (topR Z1_0 Z2_0 Z3_0 0 0) 32 224=true:=by kernel_rfl
theorem t1_1_0:allN (topR Z1_1 Z2_1 Z3_1 1 1) 32 0=true:=by kernel_rfl
theorem t1_1_1:allN (topR Z1_1 Z2_1 Z3_1 1 1) 32 32=true:=by kernel_rfl
theorem t1_1_2:allN (topR Z1_1 Z2_1 Z3_1 1 1) 32 64=true:=by kernel_rfl
theorem t1_1_3:allN (topR Z1_1 Z2_1 Z3_1 1 1) 32 96=true:=by kernel_rfl
theorem t1_1_4:allN (topR Z1_1 Z2_1 Z3_1 1 1) 32 128=true:=by kernel_rfl
theorem t1_1_5:allN (topR Z1_1 Z2_1 Z3_1 1 1) 32 160=true:=by kernel_rfl
theorem t1_1_6:allN (topR Z1_1 Z2_1 Z3_1 1 1) 32 192=true:=by kernel_rfl
theorem t1_1_7:allN (topR Z1_1 Z2_1 Z3_1 1 1) 32 224=true:=by kernel_rfl
theorem t2_2_0:allN (topR Z1_2 Z2_2 Z3_2 2 2) 32 0=true:=by kernel_rfl
theorem t2_2_1:allN (topR Z1_2 Z2_2 Z3_2 2 2) 32 32=true:=by kernel_rfl
theorem t2_2_2:allN (topR Z1_2 Z2_2 Z3_2 2 2) 32 64=true:=by kernel_rfl
theorem t2_2_3:allN (topR Z1_2 Z2_2 Z3_2 2 2) 32 96=true:=by kernel_rfl
theorem t2_2_4:allN (topR Z1_2 Z2_2 Z3_2 2 2) 32 128=true:=by kernel_rfl
theorem t2_2_5:allN (topR Z1_2 Z2_2 Z3_2 2 2) 32 160=true:=by kernel_rfl
theorem t2_2_6:allN (topR Z1_2 Z2_2 Z3_2 2 2) 32 192=true:=by kernel_rfl
theorem t2_2_7:allN (topR Z1_2 Z2_2 Z3_2 2 2) 32 224=true:=by kernel_rfl
theorem t3_3_0:allN (topR Z1_3 Z2_3 Z3_3 3 3) 32 0=true:=by kernel_rfl
theorem t3_3_1:allN (topR Z1_3 Z2_3 Z3_3 3 3) 32 32=true:=by kernel_rfl
theorem t3_3_2:allN (topR Z1_3 Z2_3 Z3_3 3 3) 32 64=true:=by kernel_rfl
theorem t3_3_3:allN (topR Z1_3 Z2_3 Z3_3 3 3) 32 96=true:=by kernel_rfl
theorem t3_3_4:allN (topR Z1_3 Z2_3 Z3_3 3 3) 32 128=true:=by kernel_rfl
theorem t3_3_5:allN (topR Z1_3 Z2_3 Z3_3 3 3) 32 160=true:=by kernel_rfl
theorem t3_3_6:allN (topR Z1_3 Z2_3 Z3_3 3 3) 32 192=true:=by kernel_rfl
theorem t3_3_7:allN (topR Z1_3 Z2_3 Z3_3 3 3) 32 224=true:=by kernel_rfl
theorem t4_0_0:allN (topR Z1_4 Z2_0 Z3_0 4 0) 32 0=true:=by kernel_rfl
theorem t4_0_1:allN (topR Z1_4 Z2_0 Z3_0 4 0) 32 32=true:=by kernel_rfl
theorem t4_0_2:allN (topR Z1_4 Z2_0 Z3_0 4 0) 32 64=true:=by kernel_rfl
theorem t4_0_3:allN (topR Z1_4 Z2_0 Z3_0 4 0) 32 96=true:=by kernel_rfl
theorem t4_0_4:allN (topR Z1_4 Z2_0 Z3_0 4 0) 32 128=true:=by kernel_rfl
theorem t4_0_5:allN (topR Z1_4 Z2_0 Z3_0 4 0) 32 160=true:=by kernel_rfl
theorem t4_0_6:allN (topR Z1_4 Z2_0 Z3_0 4 0) 32 192=true:=by kernel_rfl
theorem t4_0_7:allN (topR Z1_4 Z2_0 Z3_0 4 0) 32 224=true:=by kernel_rfl
theorem t5_1_0:allN (topR Z1_5 Z2_1 Z3_1 5 1) 32 0=true:=by kernel_rfl
theorem t5_1_1:allN (topR Z1_5 Z2_1 Z3_1 5 1) 32 32=true:=by kernel_rfl
theorem t5_1_2:allN (topR Z1_5 Z2_1 Z3_1 5 1) 32 64=true:=by kernel_rfl
theorem t5_1_3:allN (topR Z1_5 Z2_1 Z3_1 5 1) 32 96=true:=by kernel_rfl
theorem t5_1_4:allN (topR Z1_5 Z2_1 Z3_1 5 1) 32 128=true:=by kernel_rfl
theorem t5_1_5:allN (topR Z1_5 Z2_1 Z3_1 5 1) 32 160=true:=by kernel_rfl
theorem t5_1_6:allN (topR Z1_5 Z2_1 Z3_1 5 1) 32 192=true:=by kernel_rfl
theorem t5_1_7:allN (topR Z1_5 Z2_1 Z3_1 5 1) 32 224=true:=by kernel_rfl
theorem t6_2_0:allN (topR Z1_6 Z2_2 Z3_2 6 2) 32 0=true:=by kernel_rfl
theorem t6_2_1:allN (topR Z1_6 Z2_2 Z3_2 6 2) 32 32=true:=by kernel_rfl
theorem t6_2_2:allN (topR Z1_6 Z2_2 Z3_2 6 2) 32 64=true:=by kernel_rfl
theorem t6_2_3:allN (topR Z1_6 Z2_2 Z3_2 6 2) 32 96=true:=by kernel_rfl
theorem t6_2_4:allN (topR Z1_6 Z2_2 Z3_2 6 2) 32 128=true:=by kernel_rfl
theorem t6_2_5:allN (topR Z1_6 Z2_2 Z3_2 6 2) 32 160=true:=by kernel_rfl
theorem t6_2_6:allN (topR Z1_6 Z2_2 Z3_2 6 2) 32 192=true:=by kernel_rfl
theorem t6_2_7:allN (topR Z1_6 Z2_2 Z3_2 6 2) 32 224=true:=by kernel_rfl
end
end EV
end Go.Proofs.YtadggjnohohedaaGreatDoor
