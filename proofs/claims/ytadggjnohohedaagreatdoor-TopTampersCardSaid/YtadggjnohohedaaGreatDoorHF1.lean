/- TopTampers: for every input the call returns true; part HF1 of the proof. -/
import Derived.Test.YtadggjnohohedaaGreatDoorHT
import Derived.KernelRfl
namespace Go.Proofs.YtadggjnohohedaaGreatDoor
namespace EV
noncomputable section
open Go.RowKit
set_option maxRecDepth 100000
theorem t0_3_0:allN (topR Z1_0 Z2_3 Z3_3 0 3) 32 0=true:=by kernel_rfl
theorem t0_3_1:allN (topR Z1_0 Z2_3 Z3_3 0 3) 32 32=true:=by kernel_rfl
theorem t0_3_2:allN (topR Z1_0 Z2_3 Z3_3 0 3) 32 64=true:=by kernel_rfl
theorem t0_3_3:allN (topR Z1_0 Z2_3 Z3_3 0 3) 32 96=true:=by kernel_rfl
theorem t0_3_4:allN (topR Z1_0 Z2_3 Z3_3 0 3) 32 128=true:=by kernel_rfl
theorem t0_3_5:allN (topR Z1_0 Z2_3 Z3_3 0 3) 32 160=true:=by kernel_rfl
theorem t0_3_6:allN (topR Z1_0 Z2_3 Z3_3 0 3) 32 192=true:=by kernel_rfl
theorem t0_3_7:allN (topR Z1_0 Z2_3 Z3_3 0 3) 32 224=true:=by kernel_rfl
theorem t1_0_0:allN (topR Z1_1 Z2_0 Z3_0 1 0) 32 0=true:=by kernel_rfl
theorem t1_0_1:allN (topR Z1_1 Z2_0 Z3_0 1 0) 32 32=true:=by kernel_rfl
theorem t1_0_2:allN (topR Z1_1 Z2_0 Z3_0 1 0) 32 64=true:=by kernel_rfl
theorem t1_0_3:allN (topR Z1_1 Z2_0 Z3_0 1 0) 32 96=true:=by kernel_rfl
theorem t1_0_4:allN (topR Z1_1 Z2_0 Z3_0 1 0) 32 128=true:=by kernel_rfl
theorem t1_0_5:allN (topR Z1_1 Z2_0 Z3_0 1 0) 32 160=true:=by kernel_rfl
theorem t1_0_6:allN (topR Z1_1 Z2_0 Z3_0 1 0) 32 192=true:=by kernel_rfl
theorem t1_0_7:allN (topR Z1_1 Z2_0 Z3_0 1 0) 32 224=true:=by kernel_rfl
theorem t2_1_0:allN (topR Z1_2 Z2_1 Z3_1 2 1) 32 0=true:=by kernel_rfl
theorem t2_1_1:allN (topR Z1_2 Z2_1 Z3_1 2 1) 32 32=true:=by kernel_rfl
theorem t2_1_2:allN (topR Z1_2 Z2_1 Z3_1 2 1) 32 64=true:=by kernel_rfl
theorem t2_1_3:allN (topR Z1_2 Z2_1 Z3_1 2 1) 32 96=true:=by kernel_rfl
theorem t2_1_4:allN (topR Z1_2 Z2_1 Z3_1 2 1) 32 128=true:=by kernel_rfl
theorem t2_1_5:allN (topR Z1_2 Z2_1 Z3_1 2 1) 32 160=true:=by kernel_rfl
theorem t2_1_6:allN (topR Z1_2 Z2_1 Z3_1 2 1) 32 192=true:=by kernel_rfl
theorem t2_1_7:allN (topR Z1_2 Z2_1 Z3_1 2 1) 32 224=true:=by kernel_rfl
theorem t3_2_0:allN (topR Z1_3 Z2_2 Z3_2 3 2) 32 0=true:=by kernel_rfl
theorem t3_2_1:allN (topR Z1_3 Z2_2 Z3_2 3 2) 32 32=true:=by kernel_rfl
theorem t3_2_2:allN (topR Z1_3 Z2_2 Z3_2 3 2) 32 64=true:=by kernel_rfl
theorem t3_2_3:allN (topR Z1_3 Z2_2 Z3_2 3 2) 32 96=true:=by kernel_rfl
theorem t3_2_4:allN (topR Z1_3 Z2_2 Z3_2 3 2) 32 128=true:=by kernel_rfl
theorem t3_2_5:allN (topR Z1_3 Z2_2 Z3_2 3 2) 32 160=true:=by kernel_rfl
theorem t3_2_6:allN (topR Z1_3 Z2_2 Z3_2 3 2) 32 192=true:=by kernel_rfl
theorem t3_2_7:allN (topR Z1_3 Z2_2 Z3_2 3 2) 32 224=true:=by kernel_rfl
theorem t4_3_0:allN (topR Z1_4 Z2_3 Z3_3 4 3) 32 0=true:=by kernel_rfl
theorem t4_3_1:allN (topR Z1_4 Z2_3 Z3_3 4 3) 32 32=true:=by kernel_rfl
theorem t4_3_2:allN (topR Z1_4 Z2_3 Z3_3 4 3) 32 64=true:=by kernel_rfl
theorem t4_3_3:allN (topR Z1_4 Z2_3 Z3_3 4 3) 32 96=true:=by kernel_rfl
theorem t4_3_4:allN (topR Z1_4 Z2_3 Z3_3 4 3) 32 128=true:=by kernel_rfl
theorem t4_3_5:allN (topR Z1_4 Z2_3 Z3_3 4 3) 32 160=true:=by kernel_rfl
theorem t4_3_6:allN (topR Z1_4 Z2_3 Z3_3 4 3) 32 192=true:=by kernel_rfl
theorem t4_3_7:allN (topR Z1_4 Z2_3 Z3_3 4 3) 32 224=true:=by kernel_rfl
theorem t5_0_0:allN (topR Z1_5 Z2_0 Z3_0 5 0) 32 0=true:=by kernel_rfl
theorem t5_0_1:allN (topR Z1_5 Z2_0 Z3_0 5 0) 32 32=true:=by kernel_rfl
theorem t5_0_2:allN (topR Z1_5 Z2_0 Z3_0 5 0) 32 64=true:=by kernel_rfl
theorem t5_0_3:allN (topR Z1_5 Z2_0 Z3_0 5 0) 32 96=true:=by kernel_rfl
theorem t5_0_4:allN (topR Z1_5 Z2_0 Z3_0 5 0) 32 128=true:=by kernel_rfl
theorem t5_0_5:allN (topR Z1_5 Z2_0 Z3_0 5 0) 32 160=true:=by kernel_rfl
theorem t5_0_6:allN (topR Z1_5 Z2_0 Z3_0 5 0) 32 192=true:=by kernel_rfl
theorem t5_0_7:allN (topR Z1_5 Z2_0 Z3_0 5 0) 32 224=true:=by kernel_rfl
theorem t6_1_0:allN (topR Z1_6 Z2_1 Z3_1 6 1) 32 0=true:=by kernel_rfl
theorem t6_1_1:allN (topR Z1_6 Z2_1 Z3_1 6 1) 32 32=true:=by kernel_rfl
theorem t6_1_2:allN (topR Z1_6 Z2_1 Z3_1 6 1) 32 64=true:=by kernel_rfl
theorem t6_1_3:allN (topR Z1_6 Z2_1 Z3_1 6 1) 32 96=true:=by kernel_rfl
theorem t6_1_4:allN (topR Z1_6 Z2_1 Z3_1 6 1) 32 128=true:=by kernel_rfl
theorem t6_1_5:allN (topR Z1_6 Z2_1 Z3_1 6 1) 32 160=true:=by kernel_rfl
theorem t6_1_6:allN (topR Z1_6 Z2_1 Z3_1 6 1) 32 192=true:=by kernel_rfl
theorem t6_1_7:allN (topR Z1_6 Z2_1 Z3_1 6 1) 32 224=true:=by kernel_rfl
end
end EV
end Go.Proofs.YtadggjnohohedaaGreatDoor
