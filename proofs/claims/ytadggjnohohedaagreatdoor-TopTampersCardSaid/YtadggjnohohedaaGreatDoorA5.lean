/- TopTampers: for every input the call returns true; part A5 of the proof. -/
import Derived.Test.YtadggjnohohedaaGreatDoorA4
import Derived.Recover
import Derived.Laws.Pointers
set_option linter.unusedVariables false
set_option linter.unusedSimpArgs false
set_option linter.unusedSectionVars false
namespace Go.Proofs.YtadggjnohohedaaGreatDoor
namespace EV
noncomputable section
open Go.RowKit
set_option maxRecDepth 100000
theorem bd_of {t:Nat} {zs:List Value} {ls:List (Nat × Nat)} (h:Tryz.prog.built t=fun ps=>Instr.fill (fun i=>ls.toArray[i]?) zs.toArray ps):BD Tryz.prog t zs (lp ls):=by
 unfold BD; rw [h]; funext ps; congr 1; funext i; rw [lp_eq]; simp
theorem bdq_of {t:Nat} {z:List SV} {zs:List Value} {ls:List (Nat × Nat)} (hb:BD Tryz.prog t zs (lp ls)) (hz:∀ g,dens (den1 g) z=some zs):BDq Tryz.prog t z ls:=⟨zs,_,hz,hb,fun i q h=>by rw [lp_eq]; exact h⟩
theorem lp_arr (n s i:Nat) (q:Nat × Nat) (h:((List.range n).map fun i=>(i * s,s))[i]?=some q):some (i * s,s)=some q:=by
 rw [List.getElem?_map] at h
 rcases Nat.lt_or_ge i n with hi | hi
 ·rw [List.getElem?_range hi] at h; exact h
 ·rw [List.getElem?_eq_none (by simpa using hi)] at h; cases h
def oneL:List Nat:=[3,4,5,9,22,23,26,27,30,40,44,53,70,74,75,76,77,106,107,118,123,134,136,137,138,172,184,185,186,206,239,248,272,332,333,363]
theorem oneL_ok:All1 (fun t=>One Tryz.prog t) oneL:=⟨One.of Tryz.underlying3 rfl,One.of Tryz.underlying4 rfl,One.of Tryz.underlying5 rfl,One.of Tryz.underlying9 rfl,One.of Tryz.underlying22 rfl,One.of Tryz.underlying23 rfl,One.of Tryz.underlying26 rfl,One.of Tryz.underlying27 rfl,One.of Tryz.underlying30 rfl,One.of Tryz.underlying40 rfl,One.of Tryz.underlying44 rfl,One.of Tryz.underlying53 rfl,One.of Tryz.underlying70 rfl,One.of Tryz.underlying74 rfl,One.of Tryz.underlying75 rfl,One.of Tryz.underlying76 rfl,One.of Tryz.underlying77 rfl,One.of Tryz.underlying106 rfl,One.of Tryz.underlying107 rfl,One.of Tryz.underlying118 rfl,One.of Tryz.underlying123 rfl,One.of Tryz.underlying134 rfl,One.of Tryz.underlying136 rfl,One.of Tryz.underlying137 rfl,One.of Tryz.underlying138 rfl,One.of Tryz.underlying172 rfl,One.of Tryz.underlying184 rfl,One.of Tryz.underlying185 rfl,One.of Tryz.underlying186 rfl,One.of Tryz.underlying206 rfl,One.of Tryz.underlying239 rfl,One.of Tryz.underlying248 rfl,One.of Tryz.underlying272 rfl,One.of Tryz.underlying332 rfl,One.of Tryz.underlying333 rfl,One.of Tryz.underlying363 rfl,trivial⟩
theorem q_many31:Many Tryz.prog 31 3:=Many.of Tryz.underlying31 rfl (by kernel_rfl)
theorem q_many34:Many Tryz.prog 34 6:=Many.of Tryz.underlying34 rfl (by kernel_rfl)
theorem q_many47:Many Tryz.prog 47 7:=Many.of Tryz.underlying47 rfl (by kernel_rfl)
theorem q_many56:Many Tryz.prog 56 4:=Many.of Tryz.underlying56 rfl (by kernel_rfl)
theorem q_many60:Many Tryz.prog 60 2:=Many.of Tryz.underlying60 rfl (by kernel_rfl)
theorem q_many61:Many Tryz.prog 61 4:=Many.of Tryz.underlying61 rfl (by kernel_rfl)
theorem q_many62:Many Tryz.prog 62 2:=Many.of Tryz.underlying62 rfl (by kernel_rfl)
theorem q_many64:Many Tryz.prog 64 4:=Many.of Tryz.underlying64 rfl (by kernel_rfl)
theorem q_many65:Many Tryz.prog 65 8:=Many.of Tryz.underlying65 rfl (by kernel_rfl)
theorem q_many72:Many Tryz.prog 72 5:=Many.of Tryz.underlying72 rfl (by kernel_rfl)
theorem q_many81:Many Tryz.prog 81 13:=Many.of Tryz.underlying81 rfl (by kernel_rfl)
theorem q_many83:Many Tryz.prog 83 4:=Many.of Tryz.underlying83 rfl (by kernel_rfl)
theorem q_many85:Many Tryz.prog 85 7:=Many.of Tryz.underlying85 rfl (by kernel_rfl)
theorem q_many94:Many Tryz.prog 94 6:=Many.of Tryz.underlying94 rfl (by kernel_rfl)
theorem q_many96:Many Tryz.prog 96 4:=Many.of Tryz.underlying96 rfl (by kernel_rfl)
theorem q_many112:Many Tryz.prog 112 3:=Many.of Tryz.underlying112 rfl (by kernel_rfl)
theorem q_many120:Many Tryz.prog 120 9:=Many.of Tryz.underlying120 rfl (by kernel_rfl)
theorem q_many126:Many Tryz.prog 126 4:=Many.of Tryz.underlying126 rfl (by kernel_rfl)
theorem q_many140:Many Tryz.prog 140 2:=Many.of Tryz.underlying140 rfl (by kernel_rfl)
theorem q_many147:Many Tryz.prog 147 6:=Many.of Tryz.underlying147 rfl (by kernel_rfl)
theorem q_many188:Many Tryz.prog 188 5:=Many.of Tryz.underlying188 rfl (by kernel_rfl)
theorem q_many201:Many Tryz.prog 201 2:=Many.of Tryz.underlying201 rfl (by kernel_rfl)
theorem q_many203:Many Tryz.prog 203 3:=Many.of Tryz.underlying203 rfl (by kernel_rfl)
theorem q_many205:Many Tryz.prog 205 2:=Many.of Tryz.underlying205 rfl (by kernel_rfl)
theorem q_many208:Many Tryz.prog 208 1:=Many.of Tryz.underlying208 rfl (by kernel_rfl)
theorem q_many210:Many Tryz.prog 210 5:=Many.of Tryz.underlying210 rfl (by kernel_rfl)
theorem q_many217:Many Tryz.prog 217 9:=Many.of Tryz.underlying217 rfl (by kernel_rfl)
theorem q_many220:Many Tryz.prog 220 3:=Many.of Tryz.underlying220 rfl (by kernel_rfl)
theorem q_many308:Many Tryz.prog 308 10:=Many.of Tryz.underlying308 rfl (by kernel_rfl)
theorem q_many361:Many Tryz.prog 361 4:=Many.of Tryz.underlying361 rfl (by kernel_rfl)
theorem q_many364:Many Tryz.prog 364 12:=Many.of Tryz.underlying364 rfl (by kernel_rfl)
def manyL:List (Nat × Nat):=[(31,3),(34,6),(47,7),(56,4),(60,2),(61,4),(62,2),(64,4),(65,8),(72,5),(81,13),(83,4),(85,7),(94,6),(96,4),(112,3),(120,9),(126,4),(140,2),(147,6),(188,5),(201,2),(203,3),(205,2),(208,1),(210,5),(217,9),(220,3),(308,10),(361,4),(364,12)]
theorem manyL_ok:All2 (fun t n=>Many Tryz.prog t n) manyL:=⟨q_many31,q_many34,q_many47,q_many56,q_many60,q_many61,q_many62,q_many64,q_many65,q_many72,q_many81,q_many83,q_many85,q_many94,q_many96,q_many112,q_many120,q_many126,q_many140,q_many147,q_many188,q_many201,q_many203,q_many205,q_many208,q_many210,q_many217,q_many220,q_many308,q_many361,q_many364,trivial⟩
theorem q_fa34_0:FA Tryz.prog 34 0 0:=FA.of (n:=0) (ft:=3) Tryz.underlying34 rfl (by kernel_rfl)
theorem q_fa34_1:FA Tryz.prog 34 1 1:=FA.of (n:=0) (ft:=9) Tryz.underlying34 rfl (by kernel_rfl)
theorem q_fa34_2:FA Tryz.prog 34 2 2:=FA.of (n:=0) (ft:=4) Tryz.underlying34 rfl (by kernel_rfl)
theorem q_fa34_3:FA Tryz.prog 34 3 3:=FA.of (n:=0) (ft:=3) Tryz.underlying34 rfl (by kernel_rfl)
theorem q_fa34_4:FA Tryz.prog 34 4 4:=FA.of (n:=0) (ft:=26) Tryz.underlying34 rfl (by kernel_rfl)
theorem q_fa34_5:FA Tryz.prog 34 5 5:=FA.of (n:=0) (ft:=3) Tryz.underlying34 rfl (by kernel_rfl)
theorem q_fa47_0:FA Tryz.prog 47 0 0:=FA.of (n:=0) (ft:=3) Tryz.underlying47 rfl (by kernel_rfl)
theorem q_fa47_1:FA Tryz.prog 47 1 1:=FA.of (n:=0) (ft:=3) Tryz.underlying47 rfl (by kernel_rfl)
theorem q_fa47_2:FA Tryz.prog 47 2 2:=FA.of (n:=0) (ft:=3) Tryz.underlying47 rfl (by kernel_rfl)
theorem q_fa47_3:FA Tryz.prog 47 3 3:=FA.of (n:=0) (ft:=3) Tryz.underlying47 rfl (by kernel_rfl)
theorem q_fa47_4:FA Tryz.prog 47 4 4:=FA.of (n:=0) (ft:=3) Tryz.underlying47 rfl (by kernel_rfl)
theorem q_fa47_5:FA Tryz.prog 47 5 5:=FA.of (n:=0) (ft:=30) Tryz.underlying47 rfl (by kernel_rfl)
theorem q_fa47_6:FA Tryz.prog 47 6 6:=FA.of (n:=0) (ft:=9) Tryz.underlying47 rfl (by kernel_rfl)
theorem q_fa56_0:FA Tryz.prog 56 0 0:=FA.of (n:=0) (ft:=4) Tryz.underlying56 rfl (by kernel_rfl)
theorem q_fa56_1:FA Tryz.prog 56 1 1:=FA.of (n:=0) (ft:=4) Tryz.underlying56 rfl (by kernel_rfl)
theorem q_fa56_2:FA Tryz.prog 56 2 2:=FA.of (n:=0) (ft:=4) Tryz.underlying56 rfl (by kernel_rfl)
theorem q_fa56_3:FA Tryz.prog 56 3 3:=FA.of (n:=0) (ft:=4) Tryz.underlying56 rfl (by kernel_rfl)
theorem q_fa60_0:FA Tryz.prog 60 0 0:=FA.of (n:=0) (ft:=3) Tryz.underlying60 rfl (by kernel_rfl)
theorem q_fa60_1:FA Tryz.prog 60 1 1:=FA.of (n:=0) (ft:=3) Tryz.underlying60 rfl (by kernel_rfl)
theorem q_fa64_0:FA Tryz.prog 64 0 0:=FA.of (n:=1) (ft:=60) Tryz.underlying64 rfl (by kernel_rfl)
theorem q_fa64_1:FA Tryz.prog 64 1 2:=FA.of (n:=1) (ft:=62) Tryz.underlying64 rfl (by kernel_rfl)
theorem q_fa72_0:FA Tryz.prog 72 0 0:=FA.of (n:=1) (ft:=60) Tryz.underlying72 rfl (by kernel_rfl)
theorem q_fa72_1:FA Tryz.prog 72 1 2:=FA.of (n:=0) (ft:=70) Tryz.underlying72 rfl (by kernel_rfl)
theorem q_fa72_2:FA Tryz.prog 72 2 3:=FA.of (n:=0) (ft:=9) Tryz.underlying72 rfl (by kernel_rfl)
theorem q_fa72_3:FA Tryz.prog 72 3 4:=FA.of (n:=0) (ft:=3) Tryz.underlying72 rfl (by kernel_rfl)
theorem q_fa79_0:FA Tryz.prog 79 0 0:=FA.of (n:=0) (ft:=22) Tryz.underlying79 rfl (by kernel_rfl)
theorem q_fa79_1:FA Tryz.prog 79 1 1:=FA.of (n:=4) (ft:=72) Tryz.underlying79 rfl (by kernel_rfl)
theorem q_fa79_2:FA Tryz.prog 79 2 6:=FA.of (n:=0) (ft:=30) Tryz.underlying79 rfl (by kernel_rfl)
theorem q_fa79_3:FA Tryz.prog 79 3 7:=FA.of (n:=0) (ft:=30) Tryz.underlying79 rfl (by kernel_rfl)
theorem q_fa79_4:FA Tryz.prog 79 4 8:=FA.of (n:=0) (ft:=30) Tryz.underlying79 rfl (by kernel_rfl)
theorem q_fa79_5:FA Tryz.prog 79 5 9:=FA.of (n:=0) (ft:=74) Tryz.underlying79 rfl (by kernel_rfl)
theorem q_fa79_6:FA Tryz.prog 79 6 10:=FA.of (n:=0) (ft:=75) Tryz.underlying79 rfl (by kernel_rfl)
theorem q_fa79_7:FA Tryz.prog 79 7 11:=FA.of (n:=0) (ft:=76) Tryz.underlying79 rfl (by kernel_rfl)
theorem q_fa79_8:FA Tryz.prog 79 8 12:=FA.of (n:=0) (ft:=77) Tryz.underlying79 rfl (by kernel_rfl)
theorem q_fa81_0:FA Tryz.prog 81 0 0:=FA.of (n:=0) (ft:=3) Tryz.underlying81 rfl (by kernel_rfl)
theorem q_fa81_1:FA Tryz.prog 81 1 1:=FA.of (n:=0) (ft:=30) Tryz.underlying81 rfl (by kernel_rfl)
theorem q_fa81_2:FA Tryz.prog 81 2 2:=FA.of (n:=0) (ft:=30) Tryz.underlying81 rfl (by kernel_rfl)
theorem q_fa81_3:FA Tryz.prog 81 3 3:=FA.of (n:=0) (ft:=9) Tryz.underlying81 rfl (by kernel_rfl)
theorem q_fa81_4:FA Tryz.prog 81 4 4:=FA.of (n:=0) (ft:=3) Tryz.underlying81 rfl (by kernel_rfl)
theorem q_fa81_6:FA Tryz.prog 81 6 6:=FA.of (n:=0) (ft:=3) Tryz.underlying81 rfl (by kernel_rfl)
theorem q_fa81_7:FA Tryz.prog 81 7 7:=FA.of (n:=0) (ft:=3) Tryz.underlying81 rfl (by kernel_rfl)
theorem q_fa81_8:FA Tryz.prog 81 8 8:=FA.of (n:=0) (ft:=3) Tryz.underlying81 rfl (by kernel_rfl)
theorem q_fa81_9:FA Tryz.prog 81 9 9:=FA.of (n:=0) (ft:=3) Tryz.underlying81 rfl (by kernel_rfl)
theorem q_fa81_10:FA Tryz.prog 81 10 10:=FA.of (n:=0) (ft:=3) Tryz.underlying81 rfl (by kernel_rfl)
theorem q_fa81_11:FA Tryz.prog 81 11 11:=FA.of (n:=0) (ft:=30) Tryz.underlying81 rfl (by kernel_rfl)
theorem q_fa81_12:FA Tryz.prog 81 12 12:=FA.of (n:=0) (ft:=30) Tryz.underlying81 rfl (by kernel_rfl)
theorem q_fa83_0:FA Tryz.prog 83 0 0:=FA.of (n:=0) (ft:=3) Tryz.underlying83 rfl (by kernel_rfl)
theorem q_fa83_1:FA Tryz.prog 83 1 1:=FA.of (n:=0) (ft:=3) Tryz.underlying83 rfl (by kernel_rfl)
theorem q_fa83_2:FA Tryz.prog 83 2 2:=FA.of (n:=0) (ft:=3) Tryz.underlying83 rfl (by kernel_rfl)
theorem q_fa83_3:FA Tryz.prog 83 3 3:=FA.of (n:=0) (ft:=30) Tryz.underlying83 rfl (by kernel_rfl)
theorem q_fa85_0:FA Tryz.prog 85 0 0:=FA.of (n:=3) (ft:=83) Tryz.underlying85 rfl (by kernel_rfl)
theorem q_fa85_1:FA Tryz.prog 85 1 4:=FA.of (n:=0) (ft:=3) Tryz.underlying85 rfl (by kernel_rfl)
theorem q_fa85_2:FA Tryz.prog 85 2 5:=FA.of (n:=0) (ft:=3) Tryz.underlying85 rfl (by kernel_rfl)
theorem q_fa85_3:FA Tryz.prog 85 3 6:=FA.of (n:=0) (ft:=9) Tryz.underlying85 rfl (by kernel_rfl)
theorem q_fa89_0:FA Tryz.prog 89 0 0:=FA.of (n:=0) (ft:=3) Tryz.underlying89 rfl (by kernel_rfl)
theorem q_fa89_1:FA Tryz.prog 89 1 1:=FA.of (n:=6) (ft:=85) Tryz.underlying89 rfl (by kernel_rfl)
theorem q_fa94_0:FA Tryz.prog 94 0 0:=FA.of (n:=0) (ft:=3) Tryz.underlying94 rfl (by kernel_rfl)
theorem q_fa94_1:FA Tryz.prog 94 1 1:=FA.of (n:=0) (ft:=9) Tryz.underlying94 rfl (by kernel_rfl)
theorem q_fa94_2:FA Tryz.prog 94 2 2:=FA.of (n:=0) (ft:=30) Tryz.underlying94 rfl (by kernel_rfl)
theorem q_fa94_3:FA Tryz.prog 94 3 3:=FA.of (n:=0) (ft:=3) Tryz.underlying94 rfl (by kernel_rfl)
theorem q_fa94_4:FA Tryz.prog 94 4 4:=FA.of (n:=0) (ft:=3) Tryz.underlying94 rfl (by kernel_rfl)
theorem q_fa94_5:FA Tryz.prog 94 5 5:=FA.of (n:=0) (ft:=3) Tryz.underlying94 rfl (by kernel_rfl)
theorem q_fa96_0:FA Tryz.prog 96 0 0:=FA.of (n:=0) (ft:=30) Tryz.underlying96 rfl (by kernel_rfl)
theorem q_fa96_1:FA Tryz.prog 96 1 1:=FA.of (n:=0) (ft:=3) Tryz.underlying96 rfl (by kernel_rfl)
theorem q_fa96_2:FA Tryz.prog 96 2 2:=FA.of (n:=0) (ft:=3) Tryz.underlying96 rfl (by kernel_rfl)
theorem q_fa96_3:FA Tryz.prog 96 3 3:=FA.of (n:=0) (ft:=9) Tryz.underlying96 rfl (by kernel_rfl)
theorem q_fa109_0:FA Tryz.prog 109 0 0:=FA.of (n:=0) (ft:=106) Tryz.underlying109 rfl (by kernel_rfl)
theorem q_fa109_1:FA Tryz.prog 109 1 1:=FA.of (n:=0) (ft:=40) Tryz.underlying109 rfl (by kernel_rfl)
theorem q_fa109_2:FA Tryz.prog 109 2 2:=FA.of (n:=0) (ft:=107) Tryz.underlying109 rfl (by kernel_rfl)
theorem q_fa109_3:FA Tryz.prog 109 3 3:=FA.of (n:=0) (ft:=3) Tryz.underlying109 rfl (by kernel_rfl)
theorem q_fa112_0:FA Tryz.prog 112 0 0:=FA.of (n:=0) (ft:=30) Tryz.underlying112 rfl (by kernel_rfl)
theorem q_fa112_1:FA Tryz.prog 112 1 1:=FA.of (n:=0) (ft:=30) Tryz.underlying112 rfl (by kernel_rfl)
theorem q_fa120_0:FA Tryz.prog 120 0 0:=FA.of (n:=2) (ft:=112) Tryz.underlying120 rfl (by kernel_rfl)
theorem q_fa120_1:FA Tryz.prog 120 1 3:=FA.of (n:=2) (ft:=112) Tryz.underlying120 rfl (by kernel_rfl)
theorem q_fa120_2:FA Tryz.prog 120 2 6:=FA.of (n:=2) (ft:=112) Tryz.underlying120 rfl (by kernel_rfl)
theorem q_fa122_0:FA Tryz.prog 122 0 0:=FA.of (n:=0) (ft:=118) Tryz.underlying122 rfl (by kernel_rfl)
theorem q_fa122_1:FA Tryz.prog 122 1 1:=FA.of (n:=8) (ft:=120) Tryz.underlying122 rfl (by kernel_rfl)
theorem q_fa126_0:FA Tryz.prog 126 0 0:=FA.of (n:=0) (ft:=3) Tryz.underlying126 rfl (by kernel_rfl)
theorem q_fa126_1:FA Tryz.prog 126 1 1:=FA.of (n:=0) (ft:=3) Tryz.underlying126 rfl (by kernel_rfl)
theorem q_fa126_2:FA Tryz.prog 126 2 2:=FA.of (n:=0) (ft:=3) Tryz.underlying126 rfl (by kernel_rfl)
theorem q_fa126_3:FA Tryz.prog 126 3 3:=FA.of (n:=0) (ft:=3) Tryz.underlying126 rfl (by kernel_rfl)
theorem q_fa140_0:FA Tryz.prog 140 0 0:=FA.of (n:=0) (ft:=4) Tryz.underlying140 rfl (by kernel_rfl)
theorem q_fa140_1:FA Tryz.prog 140 1 1:=FA.of (n:=0) (ft:=4) Tryz.underlying140 rfl (by kernel_rfl)
theorem q_fa142_0:FA Tryz.prog 142 0 0:=FA.of (n:=0) (ft:=22) Tryz.underlying142 rfl (by kernel_rfl)
theorem q_fa142_1:FA Tryz.prog 142 1 1:=FA.of (n:=0) (ft:=136) Tryz.underlying142 rfl (by kernel_rfl)
theorem q_fa142_2:FA Tryz.prog 142 2 2:=FA.of (n:=0) (ft:=30) Tryz.underlying142 rfl (by kernel_rfl)
theorem q_fa142_3:FA Tryz.prog 142 3 3:=FA.of (n:=0) (ft:=30) Tryz.underlying142 rfl (by kernel_rfl)
theorem q_fa142_4:FA Tryz.prog 142 4 4:=FA.of (n:=0) (ft:=137) Tryz.underlying142 rfl (by kernel_rfl)
theorem q_fa142_5:FA Tryz.prog 142 5 5:=FA.of (n:=0) (ft:=53) Tryz.underlying142 rfl (by kernel_rfl)
theorem q_fa142_6:FA Tryz.prog 142 6 6:=FA.of (n:=0) (ft:=138) Tryz.underlying142 rfl (by kernel_rfl)
theorem q_fa142_7:FA Tryz.prog 142 7 7:=FA.of (n:=1) (ft:=140) Tryz.underlying142 rfl (by kernel_rfl)
theorem q_fa147_0:FA Tryz.prog 147 0 0:=FA.of (n:=0) (ft:=3) Tryz.underlying147 rfl (by kernel_rfl)
theorem q_fa147_1:FA Tryz.prog 147 1 1:=FA.of (n:=0) (ft:=3) Tryz.underlying147 rfl (by kernel_rfl)
theorem q_fa147_2:FA Tryz.prog 147 2 2:=FA.of (n:=0) (ft:=3) Tryz.underlying147 rfl (by kernel_rfl)
theorem q_fa147_3:FA Tryz.prog 147 3 3:=FA.of (n:=0) (ft:=3) Tryz.underlying147 rfl (by kernel_rfl)
theorem q_fa147_4:FA Tryz.prog 147 4 4:=FA.of (n:=0) (ft:=9) Tryz.underlying147 rfl (by kernel_rfl)
theorem q_fa147_5:FA Tryz.prog 147 5 5:=FA.of (n:=0) (ft:=3) Tryz.underlying147 rfl (by kernel_rfl)
theorem q_fa171_0:FA Tryz.prog 171 0 0:=FA.of (n:=0) (ft:=22) Tryz.underlying171 rfl (by kernel_rfl)
theorem q_fa171_1:FA Tryz.prog 171 1 1:=FA.of (n:=3) (ft:=83) Tryz.underlying171 rfl (by kernel_rfl)
theorem q_fa188_0:FA Tryz.prog 188 0 0:=FA.of (n:=0) (ft:=30) Tryz.underlying188 rfl (by kernel_rfl)
theorem q_fa188_1:FA Tryz.prog 188 1 1:=FA.of (n:=0) (ft:=30) Tryz.underlying188 rfl (by kernel_rfl)
theorem q_fa188_2:FA Tryz.prog 188 2 2:=FA.of (n:=0) (ft:=184) Tryz.underlying188 rfl (by kernel_rfl)
theorem q_fa188_3:FA Tryz.prog 188 3 3:=FA.of (n:=0) (ft:=185) Tryz.underlying188 rfl (by kernel_rfl)
theorem q_fa188_4:FA Tryz.prog 188 4 4:=FA.of (n:=0) (ft:=186) Tryz.underlying188 rfl (by kernel_rfl)
theorem q_fa198_0:FA Tryz.prog 198 0 0:=FA.of (n:=12) (ft:=81) Tryz.underlying198 rfl (by kernel_rfl)
theorem q_fa198_1:FA Tryz.prog 198 1 13:=FA.of (n:=0) (ft:=3) Tryz.underlying198 rfl (by kernel_rfl)
theorem q_fa198_2:FA Tryz.prog 198 2 14:=FA.of (n:=0) (ft:=30) Tryz.underlying198 rfl (by kernel_rfl)
theorem q_fa198_3:FA Tryz.prog 198 3 15:=FA.of (n:=1) (ft:=62) Tryz.underlying198 rfl (by kernel_rfl)
theorem q_fa201_0:FA Tryz.prog 201 0 0:=FA.of (n:=0) (ft:=3) Tryz.underlying201 rfl (by kernel_rfl)
theorem q_fa201_1:FA Tryz.prog 201 1 1:=FA.of (n:=0) (ft:=3) Tryz.underlying201 rfl (by kernel_rfl)
theorem q_fa203_0:FA Tryz.prog 203 0 0:=FA.of (n:=1) (ft:=201) Tryz.underlying203 rfl (by kernel_rfl)
theorem q_fa203_1:FA Tryz.prog 203 1 2:=FA.of (n:=0) (ft:=3) Tryz.underlying203 rfl (by kernel_rfl)
theorem q_fa205_0:FA Tryz.prog 205 0 0:=FA.of (n:=0) (ft:=30) Tryz.underlying205 rfl (by kernel_rfl)
theorem q_fa205_1:FA Tryz.prog 205 1 1:=FA.of (n:=0) (ft:=30) Tryz.underlying205 rfl (by kernel_rfl)
theorem q_fa208_0:FA Tryz.prog 208 0 0:=FA.of (n:=0) (ft:=206) Tryz.underlying208 rfl (by kernel_rfl)
theorem q_fa210_0:FA Tryz.prog 210 0 0:=FA.of (n:=1) (ft:=201) Tryz.underlying210 rfl (by kernel_rfl)
theorem q_fa210_1:FA Tryz.prog 210 1 2:=FA.of (n:=1) (ft:=205) Tryz.underlying210 rfl (by kernel_rfl)
theorem q_fa210_2:FA Tryz.prog 210 2 4:=FA.of (n:=0) (ft:=208) Tryz.underlying210 rfl (by kernel_rfl)
theorem q_fa212_0:FA Tryz.prog 212 0 0:=FA.of (n:=2) (ft:=203) Tryz.underlying212 rfl (by kernel_rfl)
theorem q_fa212_1:FA Tryz.prog 212 1 3:=FA.of (n:=4) (ft:=210) Tryz.underlying212 rfl (by kernel_rfl)
theorem q_fa212_2:FA Tryz.prog 212 2 8:=FA.of (n:=0) (ft:=22) Tryz.underlying212 rfl (by kernel_rfl)
theorem q_fa212_3:FA Tryz.prog 212 3 9:=FA.of (n:=3) (ft:=126) Tryz.underlying212 rfl (by kernel_rfl)
theorem q_fa220_0:FA Tryz.prog 220 0 0:=FA.of (n:=0) (ft:=26) Tryz.underlying220 rfl (by kernel_rfl)
theorem q_fa220_1:FA Tryz.prog 220 1 1:=FA.of (n:=0) (ft:=3) Tryz.underlying220 rfl (by kernel_rfl)
theorem q_fa220_2:FA Tryz.prog 220 2 2:=FA.of (n:=0) (ft:=44) Tryz.underlying220 rfl (by kernel_rfl)
theorem q_fa238_0:FA Tryz.prog 238 0 0:=FA.of (n:=7) (ft:=236) Tryz.underlying238 rfl (by kernel_rfl)
theorem q_fa238_1:FA Tryz.prog 238 1 8:=FA.of (n:=0) (ft:=3) Tryz.underlying238 rfl (by kernel_rfl)
theorem q_fa241_0:FA Tryz.prog 241 0 0:=FA.of (n:=0) (ft:=239) Tryz.underlying241 rfl (by kernel_rfl)
theorem q_fa241_1:FA Tryz.prog 241 1 1:=FA.of (n:=0) (ft:=3) Tryz.underlying241 rfl (by kernel_rfl)
theorem q_fa241_2:FA Tryz.prog 241 2 2:=FA.of (n:=0) (ft:=3) Tryz.underlying241 rfl (by kernel_rfl)
theorem q_fa241_3:FA Tryz.prog 241 3 3:=FA.of (n:=0) (ft:=3) Tryz.underlying241 rfl (by kernel_rfl)
theorem q_fa243_0:FA Tryz.prog 243 0 0:=FA.of (n:=0) (ft:=27) Tryz.underlying243 rfl (by kernel_rfl)
theorem q_fa274_0:FA Tryz.prog 274 0 0:=FA.of (n:=0) (ft:=3) Tryz.underlying274 rfl (by kernel_rfl)
theorem q_fa274_1:FA Tryz.prog 274 1 1:=FA.of (n:=0) (ft:=272) Tryz.underlying274 rfl (by kernel_rfl)
theorem q_fa274_2:FA Tryz.prog 274 2 2:=FA.of (n:=0) (ft:=30) Tryz.underlying274 rfl (by kernel_rfl)
theorem q_fa284_0:FA Tryz.prog 284 0 0:=FA.of (n:=0) (ft:=9) Tryz.underlying284 rfl (by kernel_rfl)
theorem q_fa284_1:FA Tryz.prog 284 1 1:=FA.of (n:=0) (ft:=3) Tryz.underlying284 rfl (by kernel_rfl)
theorem q_fa284_2:FA Tryz.prog 284 2 2:=FA.of (n:=0) (ft:=27) Tryz.underlying284 rfl (by kernel_rfl)
theorem q_fa308_0:FA Tryz.prog 308 0 0:=FA.of (n:=3) (ft:=83) Tryz.underlying308 rfl (by kernel_rfl)
theorem q_fa308_1:FA Tryz.prog 308 1 4:=FA.of (n:=0) (ft:=3) Tryz.underlying308 rfl (by kernel_rfl)
theorem q_fa308_2:FA Tryz.prog 308 2 5:=FA.of (n:=0) (ft:=3) Tryz.underlying308 rfl (by kernel_rfl)
theorem q_fa308_3:FA Tryz.prog 308 3 6:=FA.of (n:=0) (ft:=30) Tryz.underlying308 rfl (by kernel_rfl)
theorem q_fa308_4:FA Tryz.prog 308 4 7:=FA.of (n:=0) (ft:=3) Tryz.underlying308 rfl (by kernel_rfl)
theorem q_fa308_5:FA Tryz.prog 308 5 8:=FA.of (n:=0) (ft:=3) Tryz.underlying308 rfl (by kernel_rfl)
theorem q_fa308_6:FA Tryz.prog 308 6 9:=FA.of (n:=0) (ft:=3) Tryz.underlying308 rfl (by kernel_rfl)
theorem q_fa335_0:FA Tryz.prog 335 0 0:=FA.of (n:=0) (ft:=106) Tryz.underlying335 rfl (by kernel_rfl)
theorem q_fa335_1:FA Tryz.prog 335 1 1:=FA.of (n:=0) (ft:=332) Tryz.underlying335 rfl (by kernel_rfl)
theorem q_fa335_2:FA Tryz.prog 335 2 2:=FA.of (n:=0) (ft:=40) Tryz.underlying335 rfl (by kernel_rfl)
theorem q_fa335_3:FA Tryz.prog 335 3 3:=FA.of (n:=0) (ft:=40) Tryz.underlying335 rfl (by kernel_rfl)
theorem q_fa335_4:FA Tryz.prog 335 4 4:=FA.of (n:=0) (ft:=333) Tryz.underlying335 rfl (by kernel_rfl)
theorem q_fa335_5:FA Tryz.prog 335 5 5:=FA.of (n:=1) (ft:=140) Tryz.underlying335 rfl (by kernel_rfl)
theorem q_fa361_0:FA Tryz.prog 361 0 0:=FA.of (n:=0) (ft:=3) Tryz.underlying361 rfl (by kernel_rfl)
def faL:List (Nat × Nat × Nat):=[(34,0,0),(34,1,1),(34,2,2),(34,3,3),(34,4,4),(34,5,5),(47,0,0),(47,1,1),(47,2,2),(47,3,3),(47,4,4),(47,5,5),(47,6,6),(56,0,0),(56,1,1),(56,2,2),(56,3,3),(60,0,0),(60,1,1),(64,0,0),(64,1,2),(72,0,0),(72,1,2),(72,2,3),(72,3,4),(79,0,0),(79,1,1),(79,2,6),(79,3,7),(79,4,8),(79,5,9),(79,6,10),(79,7,11),(79,8,12),(81,0,0),(81,1,1),(81,2,2),(81,3,3),(81,4,4),(81,6,6),(81,7,7),(81,8,8),(81,9,9),(81,10,10),(81,11,11),(81,12,12),(83,0,0),(83,1,1),(83,2,2),(83,3,3),(85,0,0),(85,1,4),(85,2,5),(85,3,6),(89,0,0),(89,1,1),(94,0,0),(94,1,1),(94,2,2),(94,3,3),(94,4,4),(94,5,5),(96,0,0),(96,1,1),(96,2,2),(96,3,3),(109,0,0),(109,1,1),(109,2,2),(109,3,3),(112,0,0),(112,1,1),(120,0,0),(120,1,3),(120,2,6),(122,0,0),(122,1,1),(126,0,0),(126,1,1),(126,2,2),(126,3,3),(140,0,0),(140,1,1),(142,0,0),(142,1,1),(142,2,2),(142,3,3),(142,4,4),(142,5,5),(142,6,6),(142,7,7),(147,0,0),(147,1,1),(147,2,2),(147,3,3),(147,4,4),(147,5,5),(171,0,0),(171,1,1),(188,0,0),(188,1,1),(188,2,2),(188,3,3),(188,4,4),(198,0,0),(198,1,13),(198,2,14),(198,3,15),(201,0,0),(201,1,1),(203,0,0),(203,1,2),(205,0,0),(205,1,1),(208,0,0),(210,0,0),(210,1,2),(210,2,4),(212,0,0),(212,1,3),(212,2,8),(212,3,9),(220,0,0),(220,1,1),(220,2,2),(238,0,0),(238,1,8),(241,0,0),(241,1,1),(241,2,2),(241,3,3),(243,0,0),(274,0,0),(274,1,1),(274,2,2),(284,0,0),(284,1,1),(284,2,2),(308,0,0),(308,1,4),(308,2,5),(308,3,6),(308,4,7),(308,5,8),(308,6,9),(335,0,0),(335,1,1),(335,2,2),(335,3,3),(335,4,4),(335,5,5),(361,0,0)]
theorem faL_ok:All3 (fun s i o=>FA Tryz.prog s i o) faL:=⟨q_fa34_0,q_fa34_1,q_fa34_2,q_fa34_3,q_fa34_4,q_fa34_5,q_fa47_0,q_fa47_1,q_fa47_2,q_fa47_3,q_fa47_4,q_fa47_5,q_fa47_6,q_fa56_0,q_fa56_1,q_fa56_2,q_fa56_3,q_fa60_0,q_fa60_1,q_fa64_0,q_fa64_1,q_fa72_0,q_fa72_1,q_fa72_2,q_fa72_3,q_fa79_0,q_fa79_1,q_fa79_2,q_fa79_3,q_fa79_4,q_fa79_5,q_fa79_6,q_fa79_7,q_fa79_8,q_fa81_0,q_fa81_1,q_fa81_2,q_fa81_3,q_fa81_4,q_fa81_6,q_fa81_7,q_fa81_8,q_fa81_9,q_fa81_10,q_fa81_11,q_fa81_12,q_fa83_0,q_fa83_1,q_fa83_2,q_fa83_3,q_fa85_0,q_fa85_1,q_fa85_2,q_fa85_3,q_fa89_0,q_fa89_1,q_fa94_0,q_fa94_1,q_fa94_2,q_fa94_3,q_fa94_4,q_fa94_5,q_fa96_0,q_fa96_1,q_fa96_2,q_fa96_3,q_fa109_0,q_fa109_1,q_fa109_2,q_fa109_3,q_fa112_0,q_fa112_1,q_fa120_0,q_fa120_1,q_fa120_2,q_fa122_0,q_fa122_1,q_fa126_0,q_fa126_1,q_fa126_2,q_fa126_3,q_fa140_0,q_fa140_1,q_fa142_0,q_fa142_1,q_fa142_2,q_fa142_3,q_fa142_4,q_fa142_5,q_fa142_6,q_fa142_7,q_fa147_0,q_fa147_1,q_fa147_2,q_fa147_3,q_fa147_4,q_fa147_5,q_fa171_0,q_fa171_1,q_fa188_0,q_fa188_1,q_fa188_2,q_fa188_3,q_fa188_4,q_fa198_0,q_fa198_1,q_fa198_2,q_fa198_3,q_fa201_0,q_fa201_1,q_fa203_0,q_fa203_1,q_fa205_0,q_fa205_1,q_fa208_0,q_fa210_0,q_fa210_1,q_fa210_2,q_fa212_0,q_fa212_1,q_fa212_2,q_fa212_3,q_fa220_0,q_fa220_1,q_fa220_2,q_fa238_0,q_fa238_1,q_fa241_0,q_fa241_1,q_fa241_2,q_fa241_3,q_fa243_0,q_fa274_0,q_fa274_1,q_fa274_2,q_fa284_0,q_fa284_1,q_fa284_2,q_fa308_0,q_fa308_1,q_fa308_2,q_fa308_3,q_fa308_4,q_fa308_5,q_fa308_6,q_fa335_0,q_fa335_1,q_fa335_2,q_fa335_3,q_fa335_4,q_fa335_5,q_fa361_0,trivial⟩
def intL:List (Nat × IntKind):=[(2,.i64),(3,.i64),(5,.u8),(21,.i32),(27,.i64),(30,.u64),(261,.u64),(378,.i64),(386,.u32)]
theorem intL_ok:AllK (fun t k=>Tryz.prog.underlying t=some (.int k)) intL:=⟨Tryz.underlying2,Tryz.underlying3,Tryz.underlying5,Tryz.underlying21,Tryz.underlying27,Tryz.underlying30,Tryz.underlying261,Tryz.underlying378,Tryz.underlying386,trivial⟩
def strL:List Nat:=[9]
theorem strL_ok:All1 (fun t=>Tryz.prog.underlying t=some .string) strL:=⟨Tryz.underlying9,trivial⟩
def slcL:List Nat:=[26,40,44,53,70,75,106,117,136,137,172,182,206,225,248,297,332]
theorem slcL_ok:All1 (fun t=>∃ e,Tryz.prog.underlying t=some (.slice e)) slcL:=⟨⟨_,Tryz.underlying26⟩,⟨_,Tryz.underlying40⟩,⟨_,Tryz.underlying44⟩,⟨_,Tryz.underlying53⟩,⟨_,Tryz.underlying70⟩,⟨_,Tryz.underlying75⟩,⟨_,Tryz.underlying106⟩,⟨_,Tryz.underlying117⟩,⟨_,Tryz.underlying136⟩,⟨_,Tryz.underlying137⟩,⟨_,Tryz.underlying172⟩,⟨_,Tryz.underlying182⟩,⟨_,Tryz.underlying206⟩,⟨_,Tryz.underlying225⟩,⟨_,Tryz.underlying248⟩,⟨_,Tryz.underlying297⟩,⟨_,Tryz.underlying332⟩,trivial⟩
def sl8L:List Nat:=[248]
theorem sl8L_ok:All1 (fun t=>∃ e,Tryz.prog.underlying t=some (.slice e)∧Tryz.prog.underlying e=some (.int .u8)) sl8L:=⟨⟨_,Tryz.underlying248,Tryz.underlying5⟩,trivial⟩
def s8eL:List (Nat × Nat):=[(248,5)]
theorem s8eL_ok:All2 (fun t e=>Tryz.prog.underlying t=some (.slice e)∧Tryz.prog.underlying e=some (.int .u8)) s8eL:=⟨⟨Tryz.underlying248,Tryz.underlying5⟩,trivial⟩
def mapL:List Nat:=[76,77,107,138,195,226,234,235,239,272,333]
theorem mapL_ok:All1 (fun t=>∃ k e,Tryz.prog.underlying t=some (.map k e)) mapL:=⟨⟨_,_,Tryz.underlying76⟩,⟨_,_,Tryz.underlying77⟩,⟨_,_,Tryz.underlying107⟩,⟨_,_,Tryz.underlying138⟩,⟨_,_,Tryz.underlying195⟩,⟨_,_,Tryz.underlying226⟩,⟨_,_,Tryz.underlying234⟩,⟨_,_,Tryz.underlying235⟩,⟨_,_,Tryz.underlying239⟩,⟨_,_,Tryz.underlying272⟩,⟨_,_,Tryz.underlying333⟩,trivial⟩
def ptrL:List Nat:=[22,23,74,118,123,184,185,186]
theorem ptrL_ok:All1 (fun t=>∃ e,Tryz.prog.underlying t=some (.pointer e)) ptrL:=⟨⟨_,Tryz.underlying22⟩,⟨_,Tryz.underlying23⟩,⟨_,Tryz.underlying74⟩,⟨_,Tryz.underlying118⟩,⟨_,Tryz.underlying123⟩,⟨_,Tryz.underlying184⟩,⟨_,Tryz.underlying185⟩,⟨_,Tryz.underlying186⟩,trivial⟩
def anyL:List Nat:=[2,3,4,5,9,21,22,23,26,27,30,31,40,44,53,62,70,74,75,76,77,81,83,106,107,117,118,123,134,136,137,138,172,182,184,185,186,195,205,206,217,225,226,234,235,239,248,261,272,297,332,333,363,378,386,412]
theorem anyL_ok:All1 (fun t=>∃ d,Tryz.prog.underlying t=some d) anyL:=⟨⟨_,Tryz.underlying2⟩,⟨_,Tryz.underlying3⟩,⟨_,Tryz.underlying4⟩,⟨_,Tryz.underlying5⟩,⟨_,Tryz.underlying9⟩,⟨_,Tryz.underlying21⟩,⟨_,Tryz.underlying22⟩,⟨_,Tryz.underlying23⟩,⟨_,Tryz.underlying26⟩,⟨_,Tryz.underlying27⟩,⟨_,Tryz.underlying30⟩,⟨_,Tryz.underlying31⟩,⟨_,Tryz.underlying40⟩,⟨_,Tryz.underlying44⟩,⟨_,Tryz.underlying53⟩,⟨_,Tryz.underlying62⟩,⟨_,Tryz.underlying70⟩,⟨_,Tryz.underlying74⟩,⟨_,Tryz.underlying75⟩,⟨_,Tryz.underlying76⟩,⟨_,Tryz.underlying77⟩,⟨_,Tryz.underlying81⟩,⟨_,Tryz.underlying83⟩,⟨_,Tryz.underlying106⟩,⟨_,Tryz.underlying107⟩,⟨_,Tryz.underlying117⟩,⟨_,Tryz.underlying118⟩,⟨_,Tryz.underlying123⟩,⟨_,Tryz.underlying134⟩,⟨_,Tryz.underlying136⟩,⟨_,Tryz.underlying137⟩,⟨_,Tryz.underlying138⟩,⟨_,Tryz.underlying172⟩,⟨_,Tryz.underlying182⟩,⟨_,Tryz.underlying184⟩,⟨_,Tryz.underlying185⟩,⟨_,Tryz.underlying186⟩,⟨_,Tryz.underlying195⟩,⟨_,Tryz.underlying205⟩,⟨_,Tryz.underlying206⟩,⟨_,Tryz.underlying217⟩,⟨_,Tryz.underlying225⟩,⟨_,Tryz.underlying226⟩,⟨_,Tryz.underlying234⟩,⟨_,Tryz.underlying235⟩,⟨_,Tryz.underlying239⟩,⟨_,Tryz.underlying248⟩,⟨_,Tryz.underlying261⟩,⟨_,Tryz.underlying272⟩,⟨_,Tryz.underlying297⟩,⟨_,Tryz.underlying332⟩,⟨_,Tryz.underlying333⟩,⟨_,Tryz.underlying363⟩,⟨_,Tryz.underlying378⟩,⟨_,Tryz.underlying386⟩,⟨_,Tryz.underlying412⟩,trivial⟩
theorem q_eq81:EqT Tryz.prog 81 z81:=by
 have hS:Tryz.prog.underlying 81=some (.struct (Tryz.prog.fieldsOf 81)):=by kernel_rfl
 refine eqT_of hS ?_ (by kernel_rfl) (by kernel_rfl)
 simp only [Program.fieldsOf,Tryz.underlying81]
 exact ⟨rfl,rfl,Tryz.underlying3,⟨rfl,rfl,Tryz.underlying30,⟨rfl,rfl,Tryz.underlying30,⟨rfl,rfl,Tryz.underlying9,⟨rfl,rfl,Tryz.underlying3,⟨rfl,rfl,Tryz.underlying3,⟨rfl,rfl,Tryz.underlying3,⟨rfl,rfl,Tryz.underlying3,⟨rfl,rfl,Tryz.underlying3,⟨rfl,rfl,Tryz.underlying3,⟨rfl,rfl,Tryz.underlying3,⟨rfl,rfl,Tryz.underlying30,⟨rfl,rfl,Tryz.underlying30,trivial⟩⟩⟩⟩⟩⟩⟩⟩⟩⟩⟩⟩⟩
theorem q_eq83:EqT Tryz.prog 83 z83:=by
 have hS:Tryz.prog.underlying 83=some (.struct (Tryz.prog.fieldsOf 83)):=by kernel_rfl
 refine eqT_of hS ?_ (by kernel_rfl) (by kernel_rfl)
 simp only [Program.fieldsOf,Tryz.underlying83]
 exact ⟨rfl,rfl,Tryz.underlying3,⟨rfl,rfl,Tryz.underlying3,⟨rfl,rfl,Tryz.underlying3,⟨rfl,rfl,Tryz.underlying30,trivial⟩⟩⟩⟩
theorem q_eq94:EqT Tryz.prog 94 z94:=by
 have hS:Tryz.prog.underlying 94=some (.struct (Tryz.prog.fieldsOf 94)):=by kernel_rfl
 refine eqT_of hS ?_ (by kernel_rfl) (by kernel_rfl)
 simp only [Program.fieldsOf,Tryz.underlying94]
 exact ⟨rfl,rfl,Tryz.underlying3,⟨rfl,rfl,Tryz.underlying9,⟨rfl,rfl,Tryz.underlying30,⟨rfl,rfl,Tryz.underlying3,⟨rfl,rfl,Tryz.underlying3,⟨rfl,rfl,Tryz.underlying3,trivial⟩⟩⟩⟩⟩⟩
theorem q_eq205:EqT Tryz.prog 205 z205:=by
 have hS:Tryz.prog.underlying 205=some (.struct (Tryz.prog.fieldsOf 205)):=by kernel_rfl
 refine eqT_of hS ?_ (by kernel_rfl) (by kernel_rfl)
 simp only [Program.fieldsOf,Tryz.underlying205]
 exact ⟨rfl,rfl,Tryz.underlying30,⟨rfl,rfl,Tryz.underlying30,trivial⟩⟩
theorem q_eq217:EqT Tryz.prog 217 z217:=by
 have hS:Tryz.prog.underlying 112=some (.struct (Tryz.prog.fieldsOf 112)):=by kernel_rfl
 have hi:∃ i,Tryz.prog.info? 112=some i:=⟨_,rfl⟩
 refine eqTA_of (z:=z112) Tryz.underlying217 hi (by kernel_rfl) (Many.of Tryz.underlying112 rfl (by kernel_rfl)) hS ?_ (by kernel_rfl) (by kernel_rfl) (by kernel_rfl)
 simp only [Program.fieldsOf,Tryz.underlying112]
 exact ⟨rfl,rfl,Tryz.underlying30,⟨rfl,rfl,Tryz.underlying30,⟨rfl,rfl,Tryz.underlying30,trivial⟩⟩⟩
def eqL:List (Nat × List SV):=[(81,z81),(83,z83),(94,z94),(205,z205),(217,z217)]
theorem eqL_ok:AllZ (fun t z=>EqT Tryz.prog t z) eqL:=⟨q_eq81,q_eq83,q_eq94,q_eq205,q_eq217,trivial⟩
theorem q_bd31:BD Tryz.prog 31 [.int .i64 0,.int .i64 0,.int .i64 0] (fun i=>some (i * 1,1)):=by unfold BD; kernel_rfl
theorem q_bdq31:BDq Tryz.prog 31 z31 [(0,1),(1,1),(2,1)]:=⟨[.int .i64 0,.int .i64 0,.int .i64 0],_,fun g=>rfl,q_bd31,fun i q h=>lp_arr 3 1 i q h⟩
theorem q_bd34:BD Tryz.prog 34 [.int .i64 0,.string ⟨#[]⟩,.bool false,.int .i64 0,.slice none 0 0,.int .i64 0] (lp [(0,1),(1,1),(2,1),(3,1),(4,1),(5,1)]):=bd_of (by kernel_rfl)
theorem q_bdq34:BDq Tryz.prog 34 z34 [(0,1),(1,1),(2,1),(3,1),(4,1),(5,1)]:=bdq_of q_bd34 (fun g=>rfl)
theorem q_bd47:BD Tryz.prog 47 [.int .i64 0,.int .i64 0,.int .i64 0,.int .i64 0,.int .i64 0,.int .u64 0,.string ⟨#[]⟩] (lp [(0,1),(1,1),(2,1),(3,1),(4,1),(5,1),(6,1)]):=bd_of (by kernel_rfl)
theorem q_bdq47:BDq Tryz.prog 47 z47 [(0,1),(1,1),(2,1),(3,1),(4,1),(5,1),(6,1)]:=bdq_of q_bd47 (fun g=>rfl)
theorem q_bd56:BD Tryz.prog 56 [.bool false,.bool false,.bool false,.bool false] (lp [(0,1),(1,1),(2,1),(3,1)]):=bd_of (by kernel_rfl)
theorem q_bdq56:BDq Tryz.prog 56 z56 [(0,1),(1,1),(2,1),(3,1)]:=bdq_of q_bd56 (fun g=>rfl)
theorem q_bd60:BD Tryz.prog 60 [.int .i64 0,.int .i64 0] (lp [(0,1),(1,1)]):=bd_of (by kernel_rfl)
theorem q_bdq60:BDq Tryz.prog 60 z60 [(0,1),(1,1)]:=bdq_of q_bd60 (fun g=>rfl)
theorem q_bd61:BD Tryz.prog 61 [.int .i64 0,.int .i64 0,.int .i64 0,.int .i64 0] (fun i=>some (i * 2,2)):=by unfold BD; kernel_rfl
theorem q_bdq61:BDq Tryz.prog 61 z61 [(0,2),(2,2)]:=⟨[.int .i64 0,.int .i64 0,.int .i64 0,.int .i64 0],_,fun g=>rfl,q_bd61,fun i q h=>lp_arr 2 2 i q h⟩
theorem q_bd62:BD Tryz.prog 62 [.int .i64 0,.int .i64 0] (fun i=>some (i * 1,1)):=by unfold BD; kernel_rfl
theorem q_bdq62:BDq Tryz.prog 62 z62 [(0,1),(1,1)]:=⟨[.int .i64 0,.int .i64 0],_,fun g=>rfl,q_bd62,fun i q h=>lp_arr 2 1 i q h⟩
theorem q_bd64:BD Tryz.prog 64 [.int .i64 0,.int .i64 0,.int .i64 0,.int .i64 0] (lp [(0,2),(2,2)]):=bd_of (by kernel_rfl)
theorem q_bdq64:BDq Tryz.prog 64 z64 [(0,2),(2,2)]:=bdq_of q_bd64 (fun g=>rfl)
theorem q_bd65:BD Tryz.prog 65 [.int .i64 0,.int .i64 0,.int .i64 0,.int .i64 0,.int .i64 0,.int .i64 0,.int .i64 0,.int .i64 0] (fun i=>some (i * 4,4)):=by unfold BD; kernel_rfl
theorem q_bdq65:BDq Tryz.prog 65 z65 [(0,4),(4,4)]:=⟨[.int .i64 0,.int .i64 0,.int .i64 0,.int .i64 0,.int .i64 0,.int .i64 0,.int .i64 0,.int .i64 0],_,fun g=>rfl,q_bd65,fun i q h=>lp_arr 2 4 i q h⟩
theorem q_bd72:BD Tryz.prog 72 [.int .i64 0,.int .i64 0,.slice none 0 0,.string ⟨#[]⟩,.int .i64 0] (lp [(0,2),(2,1),(3,1),(4,1)]):=bd_of (by kernel_rfl)
theorem q_bdq72:BDq Tryz.prog 72 z72 [(0,2),(2,1),(3,1),(4,1)]:=bdq_of q_bd72 (fun g=>rfl)
theorem q_bd79:BD Tryz.prog 79 [.pointer none,.int .i64 0,.int .i64 0,.slice none 0 0,.string ⟨#[]⟩,.int .i64 0,.int .u64 0,.int .u64 0,.int .u64 0,.pointer none,.slice none 0 0,.map none,.map none] (lp [(0,1),(1,5),(6,1),(7,1),(8,1),(9,1),(10,1),(11,1),(12,1)]):=bd_of (by kernel_rfl)
theorem q_bdq79:BDq Tryz.prog 79 z79 [(0,1),(1,5),(6,1),(7,1),(8,1),(9,1),(10,1),(11,1),(12,1)]:=bdq_of q_bd79 (fun g=>rfl)
theorem q_bd81:BD Tryz.prog 81 [.int .i64 0,.int .u64 0,.int .u64 0,.string ⟨#[]⟩,.int .i64 0,.int .i64 0,.int .i64 0,.int .i64 0,.int .i64 0,.int .i64 0,.int .i64 0,.int .u64 0,.int .u64 0] (lp [(0,1),(1,1),(2,1),(3,1),(4,1),(5,1),(6,1),(7,1),(8,1),(9,1),(10,1),(11,1),(12,1)]):=bd_of (by kernel_rfl)
theorem q_bdq81:BDq Tryz.prog 81 z81 [(0,1),(1,1),(2,1),(3,1),(4,1),(5,1),(6,1),(7,1),(8,1),(9,1),(10,1),(11,1),(12,1)]:=bdq_of q_bd81 (fun g=>rfl)
theorem q_bd83:BD Tryz.prog 83 [.int .i64 0,.int .i64 0,.int .i64 0,.int .u64 0] (lp [(0,1),(1,1),(2,1),(3,1)]):=bd_of (by kernel_rfl)
theorem q_bdq83:BDq Tryz.prog 83 z83 [(0,1),(1,1),(2,1),(3,1)]:=bdq_of q_bd83 (fun g=>rfl)
theorem q_bd89:BD Tryz.prog 89 [.int .i64 0,.int .i64 0,.int .i64 0,.int .i64 0,.int .u64 0,.int .i64 0,.int .i64 0,.string ⟨#[]⟩,.int .u64 0] (lp [(0,1),(1,7),(8,1)]):=bd_of (by kernel_rfl)
theorem q_bdq89:BDq Tryz.prog 89 z89 [(0,1),(1,7),(8,1)]:=bdq_of q_bd89 (fun g=>rfl)
theorem q_bd94:BD Tryz.prog 94 [.int .i64 0,.string ⟨#[]⟩,.int .u64 0,.int .i64 0,.int .i64 0,.int .i64 0] (lp [(0,1),(1,1),(2,1),(3,1),(4,1),(5,1)]):=bd_of (by kernel_rfl)
theorem q_bdq94:BDq Tryz.prog 94 z94 [(0,1),(1,1),(2,1),(3,1),(4,1),(5,1)]:=bdq_of q_bd94 (fun g=>rfl)
theorem q_bd96:BD Tryz.prog 96 [.int .u64 0,.int .i64 0,.int .i64 0,.string ⟨#[]⟩] (lp [(0,1),(1,1),(2,1),(3,1)]):=bd_of (by kernel_rfl)
theorem q_bdq96:BDq Tryz.prog 96 z96 [(0,1),(1,1),(2,1),(3,1)]:=bdq_of q_bd96 (fun g=>rfl)
theorem q_bd109:BD Tryz.prog 109 [.slice none 0 0,.slice none 0 0,.map none,.int .i64 0] (lp [(0,1),(1,1),(2,1),(3,1)]):=bd_of (by kernel_rfl)
theorem q_bdq109:BDq Tryz.prog 109 z109 [(0,1),(1,1),(2,1),(3,1)]:=bdq_of q_bd109 (fun g=>rfl)
theorem q_bd112:BD Tryz.prog 112 [.int .u64 0,.int .u64 0,.int .u64 0] (lp [(0,1),(1,1),(2,1)]):=bd_of (by kernel_rfl)
theorem q_bdq112:BDq Tryz.prog 112 z112 [(0,1),(1,1),(2,1)]:=bdq_of q_bd112 (fun g=>rfl)
theorem q_bd120:BD Tryz.prog 120 [.int .u64 0,.int .u64 0,.int .u64 0,.int .u64 0,.int .u64 0,.int .u64 0,.int .u64 0,.int .u64 0,.int .u64 0] (lp [(0,3),(3,3),(6,3)]):=bd_of (by kernel_rfl)
theorem q_bdq120:BDq Tryz.prog 120 z120 [(0,3),(3,3),(6,3)]:=bdq_of q_bd120 (fun g=>rfl)
theorem q_bd122:BD Tryz.prog 122 [.pointer none,.int .u64 0,.int .u64 0,.int .u64 0,.int .u64 0,.int .u64 0,.int .u64 0,.int .u64 0,.int .u64 0,.int .u64 0] (lp [(0,1),(1,9)]):=bd_of (by kernel_rfl)
theorem q_bdq122:BDq Tryz.prog 122 z122 [(0,1),(1,9)]:=bdq_of q_bd122 (fun g=>rfl)
theorem q_bd142:BD Tryz.prog 142 [.pointer none,.slice none 0 0,.int .u64 0,.int .u64 0,.slice none 0 0,.slice none 0 0,.map none,.bool false,.bool false] (lp [(0,1),(1,1),(2,1),(3,1),(4,1),(5,1),(6,1),(7,2)]):=bd_of (by kernel_rfl)
theorem q_bdq142:BDq Tryz.prog 142 z142 [(0,1),(1,1),(2,1),(3,1),(4,1),(5,1),(6,1),(7,2)]:=bdq_of q_bd142 (fun g=>rfl)
theorem q_bd147:BD Tryz.prog 147 [.int .i64 0,.int .i64 0,.int .i64 0,.int .i64 0,.string ⟨#[]⟩,.int .i64 0] (lp [(0,1),(1,1),(2,1),(3,1),(4,1),(5,1)]):=bd_of (by kernel_rfl)
theorem q_bdq147:BDq Tryz.prog 147 z147 [(0,1),(1,1),(2,1),(3,1),(4,1),(5,1)]:=bdq_of q_bd147 (fun g=>rfl)
theorem q_bd171:BD Tryz.prog 171 [.pointer none,.int .i64 0,.int .i64 0,.int .i64 0,.int .u64 0] (lp [(0,1),(1,4)]):=bd_of (by kernel_rfl)
theorem q_bdq171:BDq Tryz.prog 171 z171 [(0,1),(1,4)]:=bdq_of q_bd171 (fun g=>rfl)
theorem q_bd188:BD Tryz.prog 188 [.int .u64 0,.int .u64 0,.pointer none,.pointer none,.pointer none] (lp [(0,1),(1,1),(2,1),(3,1),(4,1)]):=bd_of (by kernel_rfl)
theorem q_bdq188:BDq Tryz.prog 188 z188 [(0,1),(1,1),(2,1),(3,1),(4,1)]:=bdq_of q_bd188 (fun g=>rfl)
theorem q_bd198:BD Tryz.prog 198 [.int .i64 0,.int .u64 0,.int .u64 0,.string ⟨#[]⟩,.int .i64 0,.int .i64 0,.int .i64 0,.int .i64 0,.int .i64 0,.int .i64 0,.int .i64 0,.int .u64 0,.int .u64 0,.int .i64 0,.int .u64 0,.int .i64 0,.int .i64 0] (lp [(0,13),(13,1),(14,1),(15,2)]):=bd_of (by kernel_rfl)
theorem q_bdq198:BDq Tryz.prog 198 z198 [(0,13),(13,1),(14,1),(15,2)]:=bdq_of q_bd198 (fun g=>rfl)
theorem q_bd201:BD Tryz.prog 201 [.int .i64 0,.int .i64 0] (lp [(0,1),(1,1)]):=bd_of (by kernel_rfl)
theorem q_bdq201:BDq Tryz.prog 201 z201 [(0,1),(1,1)]:=bdq_of q_bd201 (fun g=>rfl)
theorem q_bd203:BD Tryz.prog 203 [.int .i64 0,.int .i64 0,.int .i64 0] (lp [(0,2),(2,1)]):=bd_of (by kernel_rfl)
theorem q_bdq203:BDq Tryz.prog 203 z203 [(0,2),(2,1)]:=bdq_of q_bd203 (fun g=>rfl)
theorem q_bd205:BD Tryz.prog 205 [.int .u64 0,.int .u64 0] (lp [(0,1),(1,1)]):=bd_of (by kernel_rfl)
theorem q_bdq205:BDq Tryz.prog 205 z205 [(0,1),(1,1)]:=bdq_of q_bd205 (fun g=>rfl)
theorem q_bd208:BD Tryz.prog 208 [.slice none 0 0] (lp [(0,1)]):=bd_of (by kernel_rfl)
theorem q_bdq208:BDq Tryz.prog 208 z208 [(0,1)]:=bdq_of q_bd208 (fun g=>rfl)
theorem q_bd210:BD Tryz.prog 210 [.int .i64 0,.int .i64 0,.int .u64 0,.int .u64 0,.slice none 0 0] (lp [(0,2),(2,2),(4,1)]):=bd_of (by kernel_rfl)
theorem q_bdq210:BDq Tryz.prog 210 z210 [(0,2),(2,2),(4,1)]:=bdq_of q_bd210 (fun g=>rfl)
theorem q_bd212:BD Tryz.prog 212 [.int .i64 0,.int .i64 0,.int .i64 0,.int .i64 0,.int .i64 0,.int .u64 0,.int .u64 0,.slice none 0 0,.pointer none,.int .i64 0,.int .i64 0,.int .i64 0,.int .i64 0] (lp [(0,3),(3,5),(8,1),(9,4)]):=bd_of (by kernel_rfl)
theorem q_bdq212:BDq Tryz.prog 212 z212 [(0,3),(3,5),(8,1),(9,4)]:=bdq_of q_bd212 (fun g=>rfl)
theorem q_bd217:BD Tryz.prog 217 [.int .u64 0,.int .u64 0,.int .u64 0,.int .u64 0,.int .u64 0,.int .u64 0,.int .u64 0,.int .u64 0,.int .u64 0] (fun i=>some (i * 3,3)):=by unfold BD; kernel_rfl
theorem q_bdq217:BDq Tryz.prog 217 z217 [(0,3),(3,3),(6,3)]:=⟨[.int .u64 0,.int .u64 0,.int .u64 0,.int .u64 0,.int .u64 0,.int .u64 0,.int .u64 0,.int .u64 0,.int .u64 0],_,fun g=>rfl,q_bd217,fun i q h=>lp_arr 3 3 i q h⟩
theorem q_bd220:BD Tryz.prog 220 [.slice none 0 0,.int .i64 0,.slice none 0 0] (lp [(0,1),(1,1),(2,1)]):=bd_of (by kernel_rfl)
theorem q_bdq220:BDq Tryz.prog 220 z220 [(0,1),(1,1),(2,1)]:=bdq_of q_bd220 (fun g=>rfl)
theorem q_bd228:BD Tryz.prog 228 [.nilFunc,.nilFunc,.nilFunc,.nilFunc,.nilFunc,.nilFunc,.nilFunc,.nilFunc,.nilFunc,.nilFunc] (fun i=>some (i * 1,1)):=by unfold BD; kernel_rfl
theorem q_bdq228:BDq Tryz.prog 228 z228 [(0,1),(1,1),(2,1),(3,1),(4,1),(5,1),(6,1),(7,1),(8,1),(9,1)]:=⟨[.nilFunc,.nilFunc,.nilFunc,.nilFunc,.nilFunc,.nilFunc,.nilFunc,.nilFunc,.nilFunc,.nilFunc],_,fun g=>rfl,q_bd228,fun i q h=>lp_arr 10 1 i q h⟩
theorem q_bd238:BD Tryz.prog 238 [.pointer none,.pointer none,.pointer none,.pointer none,.pointer none,.pointer none,.pointer none,.pointer none,.int .i64 0] (lp [(0,8),(8,1)]):=bd_of (by kernel_rfl)
theorem q_bdq238:BDq Tryz.prog 238 z238 [(0,8),(8,1)]:=bdq_of q_bd238 (fun g=>rfl)
theorem q_bd241:BD Tryz.prog 241 [.map none,.int .i64 0,.int .i64 0,.int .i64 0] (lp [(0,1),(1,1),(2,1),(3,1)]):=bd_of (by kernel_rfl)
theorem q_bdq241:BDq Tryz.prog 241 z241 [(0,1),(1,1),(2,1),(3,1)]:=bdq_of q_bd241 (fun g=>rfl)
theorem q_bd243:BD Tryz.prog 243 [.int .i64 0] (lp [(0,1)]):=bd_of (by kernel_rfl)
theorem q_bdq243:BDq Tryz.prog 243 z243 [(0,1)]:=bdq_of q_bd243 (fun g=>rfl)
theorem q_bd274:BD Tryz.prog 274 [.int .i64 0,.map none,.int .u64 0] (lp [(0,1),(1,1),(2,1)]):=bd_of (by kernel_rfl)
theorem q_bdq274:BDq Tryz.prog 274 z274 [(0,1),(1,1),(2,1)]:=bdq_of q_bd274 (fun g=>rfl)
theorem q_bd284:BD Tryz.prog 284 [.string ⟨#[]⟩,.int .i64 0,.int .i64 0] (lp [(0,1),(1,1),(2,1)]):=bd_of (by kernel_rfl)
theorem q_bdq284:BDq Tryz.prog 284 z284 [(0,1),(1,1),(2,1)]:=bdq_of q_bd284 (fun g=>rfl)
theorem q_bd291:BD Tryz.prog 291 [.int .i64 0,.int .i64 0,.string ⟨#[]⟩] (lp [(0,1),(1,1),(2,1)]):=bd_of (by kernel_rfl)
theorem q_bdq291:BDq Tryz.prog 291 z291 [(0,1),(1,1),(2,1)]:=bdq_of q_bd291 (fun g=>rfl)
theorem q_bd308:BD Tryz.prog 308 [.int .i64 0,.int .i64 0,.int .i64 0,.int .u64 0,.int .i64 0,.int .i64 0,.int .u64 0,.int .i64 0,.int .i64 0,.int .i64 0] (lp [(0,4),(4,1),(5,1),(6,1),(7,1),(8,1),(9,1)]):=bd_of (by kernel_rfl)
theorem q_bdq308:BDq Tryz.prog 308 z308 [(0,4),(4,1),(5,1),(6,1),(7,1),(8,1),(9,1)]:=bdq_of q_bd308 (fun g=>rfl)
theorem q_bd361:BD Tryz.prog 361 [.int .i64 0,.int .i64 0,.int .u64 0,.int .u64 0] (lp [(0,1),(1,1),(2,2)]):=bd_of (by kernel_rfl)
theorem q_bdq361:BDq Tryz.prog 361 z361 [(0,1),(1,1),(2,2)]:=bdq_of q_bd361 (fun g=>rfl)
theorem q_bd364:BD Tryz.prog 364 [.nilFunc,.nilFunc,.nilFunc,.nilFunc,.nilFunc,.nilFunc,.nilFunc,.nilFunc,.nilFunc,.nilFunc,.nilFunc,.nilFunc] (fun i=>some (i * 1,1)):=by unfold BD; kernel_rfl
theorem q_bdq364:BDq Tryz.prog 364 z364 [(0,1),(1,1),(2,1),(3,1),(4,1),(5,1),(6,1),(7,1),(8,1),(9,1),(10,1),(11,1)]:=⟨[.nilFunc,.nilFunc,.nilFunc,.nilFunc,.nilFunc,.nilFunc,.nilFunc,.nilFunc,.nilFunc,.nilFunc,.nilFunc,.nilFunc],_,fun g=>rfl,q_bd364,fun i q h=>lp_arr 12 1 i q h⟩
def bdL:List (Nat × List SV × List (Nat × Nat)):=[(31,z31,[(0,1),(1,1),(2,1)]),(34,z34,[(0,1),(1,1),(2,1),(3,1),(4,1),(5,1)]),(47,z47,[(0,1),(1,1),(2,1),(3,1),(4,1),(5,1),(6,1)]),(56,z56,[(0,1),(1,1),(2,1),(3,1)]),(60,z60,[(0,1),(1,1)]),(61,z61,[(0,2),(2,2)]),(62,z62,[(0,1),(1,1)]),(64,z64,[(0,2),(2,2)]),(65,z65,[(0,4),(4,4)]),(72,z72,[(0,2),(2,1),(3,1),(4,1)]),(79,z79,[(0,1),(1,5),(6,1),(7,1),(8,1),(9,1),(10,1),(11,1),(12,1)]),(81,z81,[(0,1),(1,1),(2,1),(3,1),(4,1),(5,1),(6,1),(7,1),(8,1),(9,1),(10,1),(11,1),(12,1)]),(83,z83,[(0,1),(1,1),(2,1),(3,1)]),(89,z89,[(0,1),(1,7),(8,1)]),(94,z94,[(0,1),(1,1),(2,1),(3,1),(4,1),(5,1)]),(96,z96,[(0,1),(1,1),(2,1),(3,1)]),(109,z109,[(0,1),(1,1),(2,1),(3,1)]),(112,z112,[(0,1),(1,1),(2,1)]),(120,z120,[(0,3),(3,3),(6,3)]),(122,z122,[(0,1),(1,9)]),(142,z142,[(0,1),(1,1),(2,1),(3,1),(4,1),(5,1),(6,1),(7,2)]),(147,z147,[(0,1),(1,1),(2,1),(3,1),(4,1),(5,1)]),(171,z171,[(0,1),(1,4)]),(188,z188,[(0,1),(1,1),(2,1),(3,1),(4,1)]),(198,z198,[(0,13),(13,1),(14,1),(15,2)]),(201,z201,[(0,1),(1,1)]),(203,z203,[(0,2),(2,1)]),(205,z205,[(0,1),(1,1)]),(208,z208,[(0,1)]),(210,z210,[(0,2),(2,2),(4,1)]),(212,z212,[(0,3),(3,5),(8,1),(9,4)]),(217,z217,[(0,3),(3,3),(6,3)]),(220,z220,[(0,1),(1,1),(2,1)]),(228,z228,[(0,1),(1,1),(2,1),(3,1),(4,1),(5,1),(6,1),(7,1),(8,1),(9,1)]),(238,z238,[(0,8),(8,1)]),(241,z241,[(0,1),(1,1),(2,1),(3,1)]),(243,z243,[(0,1)]),(274,z274,[(0,1),(1,1),(2,1)]),(284,z284,[(0,1),(1,1),(2,1)]),(291,z291,[(0,1),(1,1),(2,1)]),(308,z308,[(0,4),(4,1),(5,1),(6,1),(7,1),(8,1),(9,1)]),(361,z361,[(0,1),(1,1),(2,2)]),(364,z364,[(0,1),(1,1),(2,1),(3,1),(4,1),(5,1),(6,1),(7,1),(8,1),(9,1),(10,1),(11,1)])]
theorem bdL_ok:AllB (fun t z l=>BDq Tryz.prog t z l) bdL:=⟨q_bdq31,q_bdq34,q_bdq47,q_bdq56,q_bdq60,q_bdq61,q_bdq62,q_bdq64,q_bdq65,q_bdq72,q_bdq79,q_bdq81,q_bdq83,q_bdq89,q_bdq94,q_bdq96,q_bdq109,q_bdq112,q_bdq120,q_bdq122,q_bdq142,q_bdq147,q_bdq171,q_bdq188,q_bdq198,q_bdq201,q_bdq203,q_bdq205,q_bdq208,q_bdq210,q_bdq212,q_bdq217,q_bdq220,q_bdq228,q_bdq238,q_bdq241,q_bdq243,q_bdq274,q_bdq284,q_bdq291,q_bdq308,q_bdq361,q_bdq364,trivial⟩
def slL:List (Nat × Nat):=[(26,1),(40,1),(44,7),(53,6),(70,4),(75,1),(106,6),(117,3),(136,1),(172,4),(182,5),(206,4),(225,2),(248,1),(297,1),(332,1)]
theorem slL_ok:All2 (fun t s=>∃ e,SL Tryz.prog t e s) slL:=⟨⟨9,Tryz.underlying26,by kernel_rfl⟩,⟨3,Tryz.underlying40,by kernel_rfl⟩,⟨47,Tryz.underlying44,by kernel_rfl⟩,⟨147,Tryz.underlying53,by kernel_rfl⟩,⟨64,Tryz.underlying70,by kernel_rfl⟩,⟨123,Tryz.underlying75,by kernel_rfl⟩,⟨94,Tryz.underlying106,by kernel_rfl⟩,⟨112,Tryz.underlying117,by kernel_rfl⟩,⟨23,Tryz.underlying136,by kernel_rfl⟩,⟨96,Tryz.underlying172,by kernel_rfl⟩,⟨188,Tryz.underlying182,by kernel_rfl⟩,⟨361,Tryz.underlying206,by kernel_rfl⟩,⟨60,Tryz.underlying225,by kernel_rfl⟩,⟨5,Tryz.underlying248,by kernel_rfl⟩,⟨30,Tryz.underlying297,by kernel_rfl⟩,⟨4,Tryz.underlying332,by kernel_rfl⟩,trivial⟩
def arL:List (Nat × Nat × Nat):=[(31,3,1),(61,2,2),(62,2,1),(65,2,4),(178,3,1),(228,10,1),(236,8,1),(322,10,1),(364,12,1),(412,24,1)]
theorem arL_ok:All3 (fun t n s=>AR Tryz.prog t n s) arL:=⟨⟨3,Tryz.underlying31,by kernel_rfl⟩,⟨60,Tryz.underlying61,by kernel_rfl⟩,⟨3,Tryz.underlying62,by kernel_rfl⟩,⟨64,Tryz.underlying65,by kernel_rfl⟩,⟨30,Tryz.underlying178,by kernel_rfl⟩,⟨134,Tryz.underlying228,by kernel_rfl⟩,⟨184,Tryz.underlying236,by kernel_rfl⟩,⟨9,Tryz.underlying322,by kernel_rfl⟩,⟨363,Tryz.underlying364,by kernel_rfl⟩,⟨5,Tryz.underlying412,by kernel_rfl⟩,trivial⟩
def araL:List (Nat × Nat × Nat × Nat):=[(31,3,1,0),(62,2,1,0),(217,3,3,1)]
theorem araL_ok:All4 (fun t n s a=>∃ e,Tryz.prog.underlying t=some (.array n e)∧(Tryz.prog.info? e).map (·.size)=some s∧(if a=1 then Many Tryz.prog e s else One Tryz.prog e)) araL:=⟨⟨3,Tryz.underlying31,by kernel_rfl,One.of Tryz.underlying3 rfl⟩,⟨3,Tryz.underlying62,by kernel_rfl,One.of Tryz.underlying3 rfl⟩,⟨112,Tryz.underlying217,by kernel_rfl,q_many112⟩,trivial⟩
def fldL:List (Nat × Nat × Nat × Nat):=[(89,1,1,15),(126,0,0,2)]
theorem fldL_ok:All4 (fun s i o n=>∃ fs e,Tryz.prog.underlying s=some (.struct fs)∧(fs[i]?).map (fun f=>(f.type,f.offset))=some (e,o)∧(if n % 2=1 then Many Tryz.prog e (n / 2) else One Tryz.prog e)) fldL:=⟨⟨_,85,Tryz.underlying89,rfl,q_many85⟩,⟨_,3,Tryz.underlying126,rfl,One.of Tryz.underlying3 rfl⟩,trivial⟩
theorem q_pk62:KeyL Tryz.prog 62 (ienc .u16):=by
 have hi:∃ i,Tryz.prog.info? 3=some i:=⟨_,rfl⟩
 obtain ⟨i,hi⟩:=hi
 exact pairK Tryz.underlying62 Tryz.underlying3 hi (by kernel_rfl) (One.of Tryz.underlying3 rfl)
theorem q_zv76:ZV Tryz.prog 89 (.agg #[.int .i64 0,.int .i64 0,.int .i64 0,.int .i64 0,.int .u64 0,.int .i64 0,.int .i64 0,.string ⟨#[]⟩,.int .u64 0]):=by unfold ZV; kernel_rfl
theorem q_zv77:ZV Tryz.prog 110 (.pointer none):=by unfold ZV; kernel_rfl
theorem q_zv138:ZV Tryz.prog 4 (.bool false):=by unfold ZV; kernel_rfl
theorem q_zv195:ZV Tryz.prog 194 (.nilFunc):=by unfold ZV; kernel_rfl
theorem q_zv226:ZV Tryz.prog 62 (.agg #[.int .i64 0,.int .i64 0]):=by unfold ZV; kernel_rfl
theorem q_zv234:ZV Tryz.prog 53 (.slice none 0 0):=by unfold ZV; kernel_rfl
theorem q_zv239:ZV Tryz.prog 269 (.pointer none):=by unfold ZV; kernel_rfl
theorem q_zv272:ZV Tryz.prog 9 (.string ⟨#[]⟩):=by unfold ZV; kernel_rfl
theorem q_zv333:ZV Tryz.prog 3 (.int .i64 0):=by unfold ZV; kernel_rfl
def lkL:List (Nat × IntKind × SV):=[(76,.u64,(.a [(.i .i64 0),(.i .i64 0),(.i .i64 0),(.i .i64 0),(.i .u64 0),(.i .i64 0),(.i .i64 0),(.s 0 0),(.i .u64 0)])),(77,.u64,.pn),(138,.i64,(.b false)),(195,.i64,.fn),(226,.u16,(.a [(.i .i64 0),(.i .i64 0)])),(234,.i64,.sn),(239,.u64,.pn),(272,.i64,(.s 0 0)),(333,.u16,(.i .i64 0))]
theorem lkL_ok:AllL (fun t k z=>∃ K E zv,Tryz.prog.underlying t=some (.map K E)∧KeyL Tryz.prog K (ienc k)∧ZV Tryz.prog E zv∧∀ g,den2 g z=some zv) lkL:=⟨⟨_,_,_,Tryz.underlying76,intK Tryz.underlying30 rfl,q_zv76,fun g=>rfl⟩,⟨_,_,_,Tryz.underlying77,intK Tryz.underlying30 rfl,q_zv77,fun g=>rfl⟩,⟨_,_,_,Tryz.underlying138,intK Tryz.underlying3 rfl,q_zv138,fun g=>rfl⟩,⟨_,_,_,Tryz.underlying195,intK Tryz.underlying3 rfl,q_zv195,fun g=>rfl⟩,⟨_,_,_,Tryz.underlying226,q_pk62,q_zv226,fun g=>rfl⟩,⟨_,_,_,Tryz.underlying234,intK Tryz.underlying3 rfl,q_zv234,fun g=>rfl⟩,⟨_,_,_,Tryz.underlying239,intK Tryz.underlying30 rfl,q_zv239,fun g=>rfl⟩,⟨_,_,_,Tryz.underlying272,intK Tryz.underlying3 rfl,q_zv272,fun g=>rfl⟩,⟨_,_,_,Tryz.underlying333,q_pk62,q_zv333,fun g=>rfl⟩,trivial⟩
theorem q_al3:AL Tryz.prog 3 [.int .i64 0]:=by unfold AL; kernel_rfl
theorem q_al27:AL Tryz.prog 27 [.int .i64 0]:=by unfold AL; kernel_rfl
theorem q_al30:AL Tryz.prog 30 [.int .u64 0]:=by unfold AL; kernel_rfl
theorem q_al31:AL Tryz.prog 31 [.int .i64 0,.int .i64 0,.int .i64 0]:=by unfold AL; kernel_rfl
theorem q_al34:AL Tryz.prog 34 [.int .i64 0,.string ⟨#[]⟩,.bool false,.int .i64 0,.slice none 0 0,.int .i64 0]:=by unfold AL; kernel_rfl
theorem q_al40:AL Tryz.prog 40 [.slice none 0 0]:=by unfold AL; kernel_rfl
theorem q_al47:AL Tryz.prog 47 [.int .i64 0,.int .i64 0,.int .i64 0,.int .i64 0,.int .i64 0,.int .u64 0,.string ⟨#[]⟩]:=by unfold AL; kernel_rfl
theorem q_al56:AL Tryz.prog 56 [.bool false,.bool false,.bool false,.bool false]:=by unfold AL; kernel_rfl
theorem q_al60:AL Tryz.prog 60 [.int .i64 0,.int .i64 0]:=by unfold AL; kernel_rfl
theorem q_al61:AL Tryz.prog 61 [.int .i64 0,.int .i64 0,.int .i64 0,.int .i64 0]:=by unfold AL; kernel_rfl
theorem q_al62:AL Tryz.prog 62 [.int .i64 0,.int .i64 0]:=by unfold AL; kernel_rfl
theorem q_al64:AL Tryz.prog 64 [.int .i64 0,.int .i64 0,.int .i64 0,.int .i64 0]:=by unfold AL; kernel_rfl
theorem q_al65:AL Tryz.prog 65 [.int .i64 0,.int .i64 0,.int .i64 0,.int .i64 0,.int .i64 0,.int .i64 0,.int .i64 0,.int .i64 0]:=by unfold AL; kernel_rfl
theorem q_al72:AL Tryz.prog 72 [.int .i64 0,.int .i64 0,.slice none 0 0,.string ⟨#[]⟩,.int .i64 0]:=by unfold AL; kernel_rfl
theorem q_al81:AL Tryz.prog 81 [.int .i64 0,.int .u64 0,.int .u64 0,.string ⟨#[]⟩,.int .i64 0,.int .i64 0,.int .i64 0,.int .i64 0,.int .i64 0,.int .i64 0,.int .i64 0,.int .u64 0,.int .u64 0]:=by unfold AL; kernel_rfl
theorem q_al83:AL Tryz.prog 83 [.int .i64 0,.int .i64 0,.int .i64 0,.int .u64 0]:=by unfold AL; kernel_rfl
theorem q_al85:AL Tryz.prog 85 [.int .i64 0,.int .i64 0,.int .i64 0,.int .u64 0,.int .i64 0,.int .i64 0,.string ⟨#[]⟩]:=by unfold AL; kernel_rfl
theorem q_al89:AL Tryz.prog 89 [.int .i64 0,.int .i64 0,.int .i64 0,.int .i64 0,.int .u64 0,.int .i64 0,.int .i64 0,.string ⟨#[]⟩,.int .u64 0]:=by unfold AL; kernel_rfl
theorem q_al94:AL Tryz.prog 94 [.int .i64 0,.string ⟨#[]⟩,.int .u64 0,.int .i64 0,.int .i64 0,.int .i64 0]:=by unfold AL; kernel_rfl
theorem q_al96:AL Tryz.prog 96 [.int .u64 0,.int .i64 0,.int .i64 0,.string ⟨#[]⟩]:=by unfold AL; kernel_rfl
theorem q_al112:AL Tryz.prog 112 [.int .u64 0,.int .u64 0,.int .u64 0]:=by unfold AL; kernel_rfl
theorem q_al120:AL Tryz.prog 120 [.int .u64 0,.int .u64 0,.int .u64 0,.int .u64 0,.int .u64 0,.int .u64 0,.int .u64 0,.int .u64 0,.int .u64 0]:=by unfold AL; kernel_rfl
theorem q_al126:AL Tryz.prog 126 [.int .i64 0,.int .i64 0,.int .i64 0,.int .i64 0]:=by unfold AL; kernel_rfl
theorem q_al147:AL Tryz.prog 147 [.int .i64 0,.int .i64 0,.int .i64 0,.int .i64 0,.string ⟨#[]⟩,.int .i64 0]:=by unfold AL; kernel_rfl
theorem q_al172:AL Tryz.prog 172 [.slice none 0 0]:=by unfold AL; kernel_rfl
theorem q_al178:AL Tryz.prog 178 [.int .u64 0,.int .u64 0,.int .u64 0]:=by unfold AL; kernel_rfl
theorem q_al188:AL Tryz.prog 188 [.int .u64 0,.int .u64 0,.pointer none,.pointer none,.pointer none]:=by unfold AL; kernel_rfl
theorem q_al201:AL Tryz.prog 201 [.int .i64 0,.int .i64 0]:=by unfold AL; kernel_rfl
theorem q_al203:AL Tryz.prog 203 [.int .i64 0,.int .i64 0,.int .i64 0]:=by unfold AL; kernel_rfl
theorem q_al205:AL Tryz.prog 205 [.int .u64 0,.int .u64 0]:=by unfold AL; kernel_rfl
theorem q_al208:AL Tryz.prog 208 [.slice none 0 0]:=by unfold AL; kernel_rfl
theorem q_al210:AL Tryz.prog 210 [.int .i64 0,.int .i64 0,.int .u64 0,.int .u64 0,.slice none 0 0]:=by unfold AL; kernel_rfl
theorem q_al217:AL Tryz.prog 217 [.int .u64 0,.int .u64 0,.int .u64 0,.int .u64 0,.int .u64 0,.int .u64 0,.int .u64 0,.int .u64 0,.int .u64 0]:=by unfold AL; kernel_rfl
theorem q_al220:AL Tryz.prog 220 [.slice none 0 0,.int .i64 0,.slice none 0 0]:=by unfold AL; kernel_rfl
theorem q_al228:AL Tryz.prog 228 [.nilFunc,.nilFunc,.nilFunc,.nilFunc,.nilFunc,.nilFunc,.nilFunc,.nilFunc,.nilFunc,.nilFunc]:=by unfold AL; kernel_rfl
theorem q_al243:AL Tryz.prog 243 [.int .i64 0]:=by unfold AL; kernel_rfl
theorem q_al248:AL Tryz.prog 248 [.slice none 0 0]:=by unfold AL; kernel_rfl
theorem q_al308:AL Tryz.prog 308 [.int .i64 0,.int .i64 0,.int .i64 0,.int .u64 0,.int .i64 0,.int .i64 0,.int .u64 0,.int .i64 0,.int .i64 0,.int .i64 0]:=by unfold AL; kernel_rfl
theorem q_al361:AL Tryz.prog 361 [.int .i64 0,.int .i64 0,.int .u64 0,.int .u64 0]:=by unfold AL; kernel_rfl
theorem q_al364:AL Tryz.prog 364 [.nilFunc,.nilFunc,.nilFunc,.nilFunc,.nilFunc,.nilFunc,.nilFunc,.nilFunc,.nilFunc,.nilFunc,.nilFunc,.nilFunc]:=by unfold AL; kernel_rfl
theorem q_al412:AL Tryz.prog 412 [.int .u8 0,.int .u8 0,.int .u8 0,.int .u8 0,.int .u8 0,.int .u8 0,.int .u8 0,.int .u8 0,.int .u8 0,.int .u8 0,.int .u8 0,.int .u8 0,.int .u8 0,.int .u8 0,.int .u8 0,.int .u8 0,.int .u8 0,.int .u8 0,.int .u8 0,.int .u8 0,.int .u8 0,.int .u8 0,.int .u8 0,.int .u8 0]:=by unfold AL; kernel_rfl
def alL:List (Nat × List SV):=[(3,z3),(27,z27),(30,z30),(31,z31),(34,z34),(40,z40),(47,z47),(56,z56),(60,z60),(61,z61),(62,z62),(64,z64),(65,z65),(72,z72),(81,z81),(83,z83),(85,z85),(89,z89),(94,z94),(96,z96),(112,z112),(120,z120),(126,z126),(147,z147),(172,z172),(178,z178),(188,z188),(201,z201),(203,z203),(205,z205),(208,z208),(210,z210),(217,z217),(220,z220),(228,z228),(243,z243),(248,z248),(308,z308),(361,z361),(364,z364),(412,z412)]
theorem alL_ok:AllZ (fun t z=>∃ zs,AL Tryz.prog t zs∧∀ g,dens (den1 g) z=some zs) alL:=⟨⟨[.int .i64 0],q_al3,fun g=>rfl⟩,⟨[.int .i64 0],q_al27,fun g=>rfl⟩,⟨[.int .u64 0],q_al30,fun g=>rfl⟩,⟨[.int .i64 0,.int .i64 0,.int .i64 0],q_al31,fun g=>rfl⟩,⟨[.int .i64 0,.string ⟨#[]⟩,.bool false,.int .i64 0,.slice none 0 0,.int .i64 0],q_al34,fun g=>rfl⟩,⟨[.slice none 0 0],q_al40,fun g=>rfl⟩,⟨[.int .i64 0,.int .i64 0,.int .i64 0,.int .i64 0,.int .i64 0,.int .u64 0,.string ⟨#[]⟩],q_al47,fun g=>rfl⟩,⟨[.bool false,.bool false,.bool false,.bool false],q_al56,fun g=>rfl⟩,⟨[.int .i64 0,.int .i64 0],q_al60,fun g=>rfl⟩,⟨[.int .i64 0,.int .i64 0,.int .i64 0,.int .i64 0],q_al61,fun g=>rfl⟩,⟨[.int .i64 0,.int .i64 0],q_al62,fun g=>rfl⟩,⟨[.int .i64 0,.int .i64 0,.int .i64 0,.int .i64 0],q_al64,fun g=>rfl⟩,⟨[.int .i64 0,.int .i64 0,.int .i64 0,.int .i64 0,.int .i64 0,.int .i64 0,.int .i64 0,.int .i64 0],q_al65,fun g=>rfl⟩,⟨[.int .i64 0,.int .i64 0,.slice none 0 0,.string ⟨#[]⟩,.int .i64 0],q_al72,fun g=>rfl⟩,⟨[.int .i64 0,.int .u64 0,.int .u64 0,.string ⟨#[]⟩,.int .i64 0,.int .i64 0,.int .i64 0,.int .i64 0,.int .i64 0,.int .i64 0,.int .i64 0,.int .u64 0,.int .u64 0],q_al81,fun g=>rfl⟩,⟨[.int .i64 0,.int .i64 0,.int .i64 0,.int .u64 0],q_al83,fun g=>rfl⟩,⟨[.int .i64 0,.int .i64 0,.int .i64 0,.int .u64 0,.int .i64 0,.int .i64 0,.string ⟨#[]⟩],q_al85,fun g=>rfl⟩,⟨[.int .i64 0,.int .i64 0,.int .i64 0,.int .i64 0,.int .u64 0,.int .i64 0,.int .i64 0,.string ⟨#[]⟩,.int .u64 0],q_al89,fun g=>rfl⟩,⟨[.int .i64 0,.string ⟨#[]⟩,.int .u64 0,.int .i64 0,.int .i64 0,.int .i64 0],q_al94,fun g=>rfl⟩,⟨[.int .u64 0,.int .i64 0,.int .i64 0,.string ⟨#[]⟩],q_al96,fun g=>rfl⟩,⟨[.int .u64 0,.int .u64 0,.int .u64 0],q_al112,fun g=>rfl⟩,⟨[.int .u64 0,.int .u64 0,.int .u64 0,.int .u64 0,.int .u64 0,.int .u64 0,.int .u64 0,.int .u64 0,.int .u64 0],q_al120,fun g=>rfl⟩,⟨[.int .i64 0,.int .i64 0,.int .i64 0,.int .i64 0],q_al126,fun g=>rfl⟩,⟨[.int .i64 0,.int .i64 0,.int .i64 0,.int .i64 0,.string ⟨#[]⟩,.int .i64 0],q_al147,fun g=>rfl⟩,⟨[.slice none 0 0],q_al172,fun g=>rfl⟩,⟨[.int .u64 0,.int .u64 0,.int .u64 0],q_al178,fun g=>rfl⟩,⟨[.int .u64 0,.int .u64 0,.pointer none,.pointer none,.pointer none],q_al188,fun g=>rfl⟩,⟨[.int .i64 0,.int .i64 0],q_al201,fun g=>rfl⟩,⟨[.int .i64 0,.int .i64 0,.int .i64 0],q_al203,fun g=>rfl⟩,⟨[.int .u64 0,.int .u64 0],q_al205,fun g=>rfl⟩,⟨[.slice none 0 0],q_al208,fun g=>rfl⟩,⟨[.int .i64 0,.int .i64 0,.int .u64 0,.int .u64 0,.slice none 0 0],q_al210,fun g=>rfl⟩,⟨[.int .u64 0,.int .u64 0,.int .u64 0,.int .u64 0,.int .u64 0,.int .u64 0,.int .u64 0,.int .u64 0,.int .u64 0],q_al217,fun g=>rfl⟩,⟨[.slice none 0 0,.int .i64 0,.slice none 0 0],q_al220,fun g=>rfl⟩,⟨[.nilFunc,.nilFunc,.nilFunc,.nilFunc,.nilFunc,.nilFunc,.nilFunc,.nilFunc,.nilFunc,.nilFunc],q_al228,fun g=>rfl⟩,⟨[.int .i64 0],q_al243,fun g=>rfl⟩,⟨[.slice none 0 0],q_al248,fun g=>rfl⟩,⟨[.int .i64 0,.int .i64 0,.int .i64 0,.int .u64 0,.int .i64 0,.int .i64 0,.int .u64 0,.int .i64 0,.int .i64 0,.int .i64 0],q_al308,fun g=>rfl⟩,⟨[.int .i64 0,.int .i64 0,.int .u64 0,.int .u64 0],q_al361,fun g=>rfl⟩,⟨[.nilFunc,.nilFunc,.nilFunc,.nilFunc,.nilFunc,.nilFunc,.nilFunc,.nilFunc,.nilFunc,.nilFunc,.nilFunc,.nilFunc],q_al364,fun g=>rfl⟩,⟨[.int .u8 0,.int .u8 0,.int .u8 0,.int .u8 0,.int .u8 0,.int .u8 0,.int .u8 0,.int .u8 0,.int .u8 0,.int .u8 0,.int .u8 0,.int .u8 0,.int .u8 0,.int .u8 0,.int .u8 0,.int .u8 0,.int .u8 0,.int .u8 0,.int .u8 0,.int .u8 0,.int .u8 0,.int .u8 0,.int .u8 0,.int .u8 0],q_al412,fun g=>rfl⟩,trivial⟩
theorem q_bs26:BS Tryz.prog 26 9 1 [.string ⟨#[]⟩]:=⟨Tryz.underlying26,by kernel_rfl,rfl,by decide⟩
theorem q_bs40:BS Tryz.prog 40 3 1 [.int .i64 0]:=⟨Tryz.underlying40,by kernel_rfl,rfl,by decide⟩
theorem q_bs44:BS Tryz.prog 44 47 7 [.int .i64 0,.int .i64 0,.int .i64 0,.int .i64 0,.int .i64 0,.int .u64 0,.string ⟨#[]⟩]:=⟨Tryz.underlying44,by kernel_rfl,rfl,by decide⟩
theorem q_bs53:BS Tryz.prog 53 147 6 [.int .i64 0,.int .i64 0,.int .i64 0,.int .i64 0,.string ⟨#[]⟩,.int .i64 0]:=⟨Tryz.underlying53,by kernel_rfl,rfl,by decide⟩
theorem q_bs70:BS Tryz.prog 70 64 4 [.int .i64 0,.int .i64 0,.int .i64 0,.int .i64 0]:=⟨Tryz.underlying70,by kernel_rfl,rfl,by decide⟩
theorem q_bs75:BS Tryz.prog 75 123 1 [.pointer none]:=⟨Tryz.underlying75,by kernel_rfl,rfl,by decide⟩
theorem q_bs106:BS Tryz.prog 106 94 6 [.int .i64 0,.string ⟨#[]⟩,.int .u64 0,.int .i64 0,.int .i64 0,.int .i64 0]:=⟨Tryz.underlying106,by kernel_rfl,rfl,by decide⟩
theorem q_bs117:BS Tryz.prog 117 112 3 [.int .u64 0,.int .u64 0,.int .u64 0]:=⟨Tryz.underlying117,by kernel_rfl,rfl,by decide⟩
theorem q_bs136:BS Tryz.prog 136 23 1 [.pointer none]:=⟨Tryz.underlying136,by kernel_rfl,rfl,by decide⟩
theorem q_bs137:BS Tryz.prog 137 291 3 [.int .i64 0,.int .i64 0,.string ⟨#[]⟩]:=⟨Tryz.underlying137,by kernel_rfl,rfl,by decide⟩
theorem q_bs172:BS Tryz.prog 172 96 4 [.int .u64 0,.int .i64 0,.int .i64 0,.string ⟨#[]⟩]:=⟨Tryz.underlying172,by kernel_rfl,rfl,by decide⟩
theorem q_bs206:BS Tryz.prog 206 361 4 [.int .i64 0,.int .i64 0,.int .u64 0,.int .u64 0]:=⟨Tryz.underlying206,by kernel_rfl,rfl,by decide⟩
theorem q_bs225:BS Tryz.prog 225 60 2 [.int .i64 0,.int .i64 0]:=⟨Tryz.underlying225,by kernel_rfl,rfl,by decide⟩
theorem q_bs248:BS Tryz.prog 248 5 1 [.int .u8 0]:=⟨Tryz.underlying248,by kernel_rfl,rfl,by decide⟩
theorem q_bs297:BS Tryz.prog 297 30 1 [.int .u64 0]:=⟨Tryz.underlying297,by kernel_rfl,rfl,by decide⟩
def bsL:List (Nat × Nat × Nat × List SV):=[(26,9,1,[(.s 0 0)]),(40,3,1,[(.i .i64 0)]),(44,47,7,[(.i .i64 0),(.i .i64 0),(.i .i64 0),(.i .i64 0),(.i .i64 0),(.i .u64 0),(.s 0 0)]),(53,147,6,[(.i .i64 0),(.i .i64 0),(.i .i64 0),(.i .i64 0),(.s 0 0),(.i .i64 0)]),(70,64,4,[(.i .i64 0),(.i .i64 0),(.i .i64 0),(.i .i64 0)]),(75,123,1,[.pn]),(106,94,6,[(.i .i64 0),(.s 0 0),(.i .u64 0),(.i .i64 0),(.i .i64 0),(.i .i64 0)]),(117,112,3,[(.i .u64 0),(.i .u64 0),(.i .u64 0)]),(136,23,1,[.pn]),(137,291,3,[(.i .i64 0),(.i .i64 0),(.s 0 0)]),(172,96,4,[(.i .u64 0),(.i .i64 0),(.i .i64 0),(.s 0 0)]),(206,361,4,[(.i .i64 0),(.i .i64 0),(.i .u64 0),(.i .u64 0)]),(225,60,2,[(.i .i64 0),(.i .i64 0)]),(248,5,1,[(.i .u8 0)]),(297,30,1,[(.i .u64 0)])]
theorem bsL_ok:AllR (fun t e s z=>∃ zero,BS Tryz.prog t e s zero∧∀ g,dens (den1 g) z=some zero) bsL:=⟨⟨_,q_bs26,fun g=>rfl⟩,⟨_,q_bs40,fun g=>rfl⟩,⟨_,q_bs44,fun g=>rfl⟩,⟨_,q_bs53,fun g=>rfl⟩,⟨_,q_bs70,fun g=>rfl⟩,⟨_,q_bs75,fun g=>rfl⟩,⟨_,q_bs106,fun g=>rfl⟩,⟨_,q_bs117,fun g=>rfl⟩,⟨_,q_bs136,fun g=>rfl⟩,⟨_,q_bs137,fun g=>rfl⟩,⟨_,q_bs172,fun g=>rfl⟩,⟨_,q_bs206,fun g=>rfl⟩,⟨_,q_bs225,fun g=>rfl⟩,⟨_,q_bs248,fun g=>rfl⟩,⟨_,q_bs297,fun g=>rfl⟩,trivial⟩
def bs0L:List (Nat × Nat × Nat):=[(53,147,6),(70,64,4),(206,361,4)]
theorem bs0L_ok:All3 (fun t e z=>Tryz.prog.underlying t=some (.slice e)∧(Tryz.prog.info? e).map (·.size)=some z) bs0L:=⟨⟨Tryz.underlying53,by kernel_rfl⟩,⟨Tryz.underlying70,by kernel_rfl⟩,⟨Tryz.underlying206,by kernel_rfl⟩,trivial⟩
def szL:List (Nat × Nat):=[(3,1),(4,1),(5,1),(9,1),(26,1),(27,1),(30,1),(31,3),(34,6),(40,1),(44,1),(47,7),(56,4),(60,2),(61,4),(62,2),(64,4),(65,8),(70,1),(72,5),(75,1),(81,13),(83,4),(85,7),(89,9),(94,6),(96,4),(106,1),(112,3),(120,9),(126,4),(136,1),(137,1),(147,6),(184,1),(188,5),(201,2),(203,3),(205,2),(208,1),(210,5),(217,9),(220,3),(228,10),(243,1),(248,1),(308,10),(361,4),(364,12)]
theorem szL_ok:All2 (fun t n=>SZ Tryz.prog t n) szL:=⟨(show SZ Tryz.prog 3 1 by unfold SZ; kernel_rfl),(show SZ Tryz.prog 4 1 by unfold SZ; kernel_rfl),(show SZ Tryz.prog 5 1 by unfold SZ; kernel_rfl),(show SZ Tryz.prog 9 1 by unfold SZ; kernel_rfl),(show SZ Tryz.prog 26 1 by unfold SZ; kernel_rfl),(show SZ Tryz.prog 27 1 by unfold SZ; kernel_rfl),(show SZ Tryz.prog 30 1 by unfold SZ; kernel_rfl),(show SZ Tryz.prog 31 3 by unfold SZ; kernel_rfl),(show SZ Tryz.prog 34 6 by unfold SZ; kernel_rfl),(show SZ Tryz.prog 40 1 by unfold SZ; kernel_rfl),(show SZ Tryz.prog 44 1 by unfold SZ; kernel_rfl),(show SZ Tryz.prog 47 7 by unfold SZ; kernel_rfl),(show SZ Tryz.prog 56 4 by unfold SZ; kernel_rfl),(show SZ Tryz.prog 60 2 by unfold SZ; kernel_rfl),(show SZ Tryz.prog 61 4 by unfold SZ; kernel_rfl),(show SZ Tryz.prog 62 2 by unfold SZ; kernel_rfl),(show SZ Tryz.prog 64 4 by unfold SZ; kernel_rfl),(show SZ Tryz.prog 65 8 by unfold SZ; kernel_rfl),(show SZ Tryz.prog 70 1 by unfold SZ; kernel_rfl),(show SZ Tryz.prog 72 5 by unfold SZ; kernel_rfl),(show SZ Tryz.prog 75 1 by unfold SZ; kernel_rfl),(show SZ Tryz.prog 81 13 by unfold SZ; kernel_rfl),(show SZ Tryz.prog 83 4 by unfold SZ; kernel_rfl),(show SZ Tryz.prog 85 7 by unfold SZ; kernel_rfl),(show SZ Tryz.prog 89 9 by unfold SZ; kernel_rfl),(show SZ Tryz.prog 94 6 by unfold SZ; kernel_rfl),(show SZ Tryz.prog 96 4 by unfold SZ; kernel_rfl),(show SZ Tryz.prog 106 1 by unfold SZ; kernel_rfl),(show SZ Tryz.prog 112 3 by unfold SZ; kernel_rfl),(show SZ Tryz.prog 120 9 by unfold SZ; kernel_rfl),(show SZ Tryz.prog 126 4 by unfold SZ; kernel_rfl),(show SZ Tryz.prog 136 1 by unfold SZ; kernel_rfl),(show SZ Tryz.prog 137 1 by unfold SZ; kernel_rfl),(show SZ Tryz.prog 147 6 by unfold SZ; kernel_rfl),(show SZ Tryz.prog 184 1 by unfold SZ; kernel_rfl),(show SZ Tryz.prog 188 5 by unfold SZ; kernel_rfl),(show SZ Tryz.prog 201 2 by unfold SZ; kernel_rfl),(show SZ Tryz.prog 203 3 by unfold SZ; kernel_rfl),(show SZ Tryz.prog 205 2 by unfold SZ; kernel_rfl),(show SZ Tryz.prog 208 1 by unfold SZ; kernel_rfl),(show SZ Tryz.prog 210 5 by unfold SZ; kernel_rfl),(show SZ Tryz.prog 217 9 by unfold SZ; kernel_rfl),(show SZ Tryz.prog 220 3 by unfold SZ; kernel_rfl),(show SZ Tryz.prog 228 10 by unfold SZ; kernel_rfl),(show SZ Tryz.prog 243 1 by unfold SZ; kernel_rfl),(show SZ Tryz.prog 248 1 by unfold SZ; kernel_rfl),(show SZ Tryz.prog 308 10 by unfold SZ; kernel_rfl),(show SZ Tryz.prog 361 4 by unfold SZ; kernel_rfl),(show SZ Tryz.prog 364 12 by unfold SZ; kernel_rfl),trivial⟩
def apL:List (Nat × Nat × Nat × Nat):=[(26,9,1,16),(40,3,1,8),(44,47,7,64),(53,147,6,56),(70,64,4,32),(75,123,1,8),(106,94,6,56),(117,112,3,24),(136,23,1,8),(137,291,3,32),(172,96,4,40),(206,361,4,32),(225,60,2,16),(248,5,1,1),(297,30,1,8)]
theorem apL_ok:All4 (fun t e z b=>∃ zv,APt Tryz.prog t e z b zv) apL:=⟨⟨.string ⟨#[]⟩,Tryz.underlying26,by kernel_rfl,rfl,by decide⟩,⟨.int .i64 0,Tryz.underlying40,by kernel_rfl,rfl,by decide⟩,⟨.agg #[.int .i64 0,.int .i64 0,.int .i64 0,.int .i64 0,.int .i64 0,.int .u64 0,.string ⟨#[]⟩],Tryz.underlying44,by kernel_rfl,rfl,by decide⟩,⟨.agg #[.int .i64 0,.int .i64 0,.int .i64 0,.int .i64 0,.string ⟨#[]⟩,.int .i64 0],Tryz.underlying53,by kernel_rfl,rfl,by decide⟩,⟨.agg #[.int .i64 0,.int .i64 0,.int .i64 0,.int .i64 0],Tryz.underlying70,by kernel_rfl,rfl,by decide⟩,⟨.pointer none,Tryz.underlying75,by kernel_rfl,rfl,by decide⟩,⟨.agg #[.int .i64 0,.string ⟨#[]⟩,.int .u64 0,.int .i64 0,.int .i64 0,.int .i64 0],Tryz.underlying106,by kernel_rfl,rfl,by decide⟩,⟨.agg #[.int .u64 0,.int .u64 0,.int .u64 0],Tryz.underlying117,by kernel_rfl,rfl,by decide⟩,⟨.pointer none,Tryz.underlying136,by kernel_rfl,rfl,by decide⟩,⟨.agg #[.int .i64 0,.int .i64 0,.string ⟨#[]⟩],Tryz.underlying137,by kernel_rfl,rfl,by decide⟩,⟨.agg #[.int .u64 0,.int .i64 0,.int .i64 0,.string ⟨#[]⟩],Tryz.underlying172,by kernel_rfl,rfl,by decide⟩,⟨.agg #[.int .i64 0,.int .i64 0,.int .u64 0,.int .u64 0],Tryz.underlying206,by kernel_rfl,rfl,by decide⟩,⟨.agg #[.int .i64 0,.int .i64 0],Tryz.underlying225,by kernel_rfl,rfl,by decide⟩,⟨.int .u8 0,Tryz.underlying248,by kernel_rfl,rfl,by decide⟩,⟨.int .u64 0,Tryz.underlying297,by kernel_rfl,rfl,by decide⟩,trivial⟩
def mpL:List (Nat × IntKind):=[(76,.u64),(77,.u64),(138,.i64),(195,.i64),(226,.u16),(234,.i64),(239,.u64),(333,.u16)]
theorem mpL_ok:AllK (fun t k=>∃ K E,Tryz.prog.underlying t=some (.map K E)∧KeyL Tryz.prog K (ienc k)) mpL:=⟨⟨_,_,Tryz.underlying76,intK Tryz.underlying30 rfl⟩,⟨_,_,Tryz.underlying77,intK Tryz.underlying30 rfl⟩,⟨_,_,Tryz.underlying138,intK Tryz.underlying3 rfl⟩,⟨_,_,Tryz.underlying195,intK Tryz.underlying3 rfl⟩,⟨_,_,Tryz.underlying226,q_pk62⟩,⟨_,_,Tryz.underlying234,intK Tryz.underlying3 rfl⟩,⟨_,_,Tryz.underlying239,intK Tryz.underlying30 rfl⟩,⟨_,_,Tryz.underlying333,q_pk62⟩,trivial⟩
theorem q_fa81_5:FA Tryz.prog 81 5 5:=FA.of (n:=0) (ft:=3) Tryz.underlying81 rfl (by kernel_rfl)
end
noncomputable section
open Go.RowKit
variable (gls:Nat→List SV→Bool)
def ftab:FT where
 fa:=in3 faL
 one:=in1 oneL
 many:=in2 manyL
 tk k t:=match k with
  | .s=>in1 strL t
  | .l=>in1 slcL t
  | .m=>in1 mapL t
  | .p=>in1 ptrL t
  | .o=>in1 anyL t
  | .a z=>in1 anyL t && inZ eqL t z
 toI s t k:=in1 anyL s && inK intL t k
 toS s t:=in1 sl8L s && in1 strL t
 bd:=inB bdL
 sl:=in2 slL
 ar:=in3 arL
 str:=in1 strL
 ara t n s ag:=in4 araL t n s (bif ag then 1 else 0)
 fld s i o n ag:=in4 fldL s i o (2 * n + bif ag then 1 else 0)
 lk:=inL lkL
 al:=inZ alL
 bs:=inR bsL
 bs0:=in3 bs0L
 sz:=in2 szL
 ap:=in4 apL
 mp:=inK mpL
 toB s t e:=in1 strL s && in2 s8eL t e
 gl:=gls
theorem ftab_ok {W0:World} (hg:∀ b l,gls b l=true→∀ (o:Nat) (v:SV),l[o]?=some v→∃ x,(∀ g,den1 g v=some x)∧W0.cell? ⟨b,o,none⟩=some x):(ftab gls).Ok Tryz.prog W0 where
 fa s i o h:=in3_of faL_ok h
 one t h:=in1_of oneL_ok h
 many t n h:=in2_of manyL_ok h
 tk k t h:=by
  cases k with
  | s=>exact ⟨_,in1_of strL_ok h,rfl,fun zz e=>by cases e⟩
  | l=>obtain ⟨e,h1⟩:=in1_of slcL_ok h; exact ⟨_,h1,rfl,fun zz e=>by cases e⟩
  | m=>obtain ⟨k,e,h1⟩:=in1_of mapL_ok h; exact ⟨_,h1,rfl,fun zz e=>by cases e⟩
  | p=>obtain ⟨e,h1⟩:=in1_of ptrL_ok h; exact ⟨_,h1,rfl,fun zz e=>by cases e⟩
  | o=>obtain ⟨d,h1⟩:=in1_of anyL_ok h; exact ⟨_,h1,rfl,fun zz e=>by cases e⟩
  | a z =>
   have h':(in1 anyL t && inZ eqL t z)=true:=h
   simp only [Bool.and_eq_true] at h'
   obtain ⟨d,h1⟩:=in1_of anyL_ok h'.1
   exact ⟨_,h1,rfl,fun zz e=>by injection e with e; subst e; exact inZ_of eqL_ok h'.2⟩
 toI s t k h:=by
  have h':(in1 anyL s && inK intL t k)=true:=h
  simp only [Bool.and_eq_true] at h'
  exact ⟨in1_of anyL_ok h'.1,inK_of intL_ok h'.2⟩
 toS s t h:=by
  have h':(in1 sl8L s && in1 strL t)=true:=h
  simp only [Bool.and_eq_true] at h'
  obtain ⟨e,h1,h2⟩:=in1_of sl8L_ok h'.1
  exact ⟨e,h1,h2,in1_of strL_ok h'.2⟩
 bd t z l h:=by
  obtain ⟨pl,⟨zs,p2,h1,h2,h3⟩,h4⟩:=inB_of bdL_ok h
  exact ⟨zs,p2,h1,h2,fun q hq=>h3 _ _ (h4 q hq)⟩
 sl t s h:=in2_of slL_ok h
 ar t n s h:=in3_of arL_ok h
 str t h:=in1_of strL_ok h
 ara t n s ag h:=by
  obtain ⟨e,h1,h2,h3⟩:=in4_of araL_ok h
  refine ⟨e,h1,h2,?_⟩
  cases ag <;> simpa using h3
 fld s i o n ag h:=by
  obtain ⟨fs,e,h1,h2,h3⟩:=in4_of fldL_ok h
  refine ⟨fs,e,h1,h2,?_⟩
  cases ag with
  | true =>
   have e1:(2 * n + 1) % 2=1:=by omega
   have e2:(2 * n + 1) / 2=n:=by omega
   simpa [e1,e2] using h3
  | false =>
   have e1:¬ (2 * n) % 2=1:=by omega
   simpa [e1] using h3
 lk t k z h:=inL_of lkL_ok h
 al t z h:=inZ_of alL_ok h
 bs t e z n zs h:=by
  obtain ⟨zz,⟨zero,h1,h2⟩,h3,h4,h5,rfl⟩:=inR_of bsL_ok h
  exact ⟨zero,h1,h3,h4,fun g=>rep_den (h2 g) n,Nat.le_trans h5 (by unfold maxLen; decide)⟩
 bs0 t e z h:=in3_of bs0L_ok h
 sz t n h:=in2_of szL_ok h
 ap t e z b h:=in4_of apL_ok h
 mp t k h:=inK_of mpL_ok h
 toB s t e h:=by
  have h':(in1 strL s && in2 s8eL t e)=true:=h
  simp only [Bool.and_eq_true] at h'
  obtain ⟨h1,h2⟩:=in2_of s8eL_ok h'.2
  exact ⟨in1_of strL_ok h'.1,h1,h2⟩
 gl b l h:=hg b l h
end
noncomputable section
open Go.RowKit
set_option maxRecDepth 100000
theorem zv243:(Tryz.prog.info? 243).map (·.zero)=some (some (.agg #[.int .i64 0])):=by kernel_rfl
theorem run_assert_nil (w:World):(Instr.typeAssert .nilIface 20 243 true).run Tryz.prog w=.ok (.tuple #[.agg #[.int .i64 0],.bool false]) w:=by
 have hz:=ZV.run (P:=Tryz.prog) (t:=243) (z:=.agg #[.int .i64 0]) zv243 w
 simp [Instr.typeAssert,underlying,Tryz.underlying243,hz]
theorem run_assert_some (v:Value) (w:World):(Instr.typeAssert (.iface 243 v) 20 243 true).run Tryz.prog w=.ok (.tuple #[v,.bool true]) w:=by
 simp [Instr.typeAssert,underlying,Tryz.underlying243]
theorem endd_quiet (x:Value) (W:World):CallsD Tryz.prog 55 #[x] .returning W fun e u' w'=>(∃ v,e=.returned v)∧u'=.returning∧∀ W0 L,Sts W0 W L→Sts W0 w' L:=by
 refine callsD_of_wpS Tryz.func55 rfl fun c₀ cs hu=>?_
 apply wpS_seq
 apply wpS_region
 simp [wpOpsS,go_sem,recoverD,hu,Tryz.ntmps55,Exit.thenS,run_assert_nil]
 apply wpS_seq
 apply wpS_region
 simp [wpOpsS,go_sem,Exit.thenS]
 refine wpS_cond (t:=false) (by simp [Act.eval,Array.replicate]) ?_
 simp only [Bool.false_eq_true,if_false]
 refine wpS_of_wp (wp_skip ?_)
 refine ⟨rfl,.returning,by cases c₀; simp_all,.tuple #[],by simp [results,Tryz.results55],⟨_,rfl⟩,rfl,fun W0 L hs=>?_⟩
 exact hs.step ((Below.refl _ _).alloc (Nat.le_refl _) _)
theorem endd_caught (b o t:Nat) (C:List Value) (k:IntKind) (n:Int) (W0 W:World) (L:List Thing) (hs:Sts W0 W (Bk b t C::L)) (ho:o < C.length):CallsD Tryz.prog 55 #[.pointer (some ⟨b,o,none⟩)] (.panicking (chain (.int k n))) W fun e u' w'=>(∃ v,e=.returned v)∧settle u'=.returning∧Sts W0 w' (Bk b t (C.set o (.int k n))::L):=by
 have hat:=(hs.bk .here)
 have hb:b < W.heap.size:=hat.lt
 have hc:∀ x,C[o]?=some x→W.cell? ⟨b,o,none⟩=some x:=fun x hx=>by rw [hat.rd]; simpa using hx
 obtain ⟨x0,hx0⟩:∃ x,C[o]?=some x:=⟨_,List.getElem?_eq_getElem ho⟩
 have hcell:=hc x0 hx0
 have hne:W.heap.size≠b:=by omega
 have hfz:W.frozen? ⟨b,o,none⟩=false:=hat.fr o
 refine callsD_of_wpS Tryz.func55 rfl fun c₀ cs hu=>?_
 apply wpS_seq
 apply wpS_region
 simp [wpOpsS,go_sem,recoverD,hu,Tryz.ntmps55,Exit.thenS,run_assert_some,chain,wrongV]
 apply wpS_seq
 apply wpS_region
 simp [wpOpsS,go_sem,Exit.thenS]
 refine wpS_cond (t:=true) (by simp [Act.eval,Array.replicate]) ?_
 simp only [if_true]
 apply wpS_region
 have h1:=keepA (.cells #[.int k n] 243) hcell
 have h2:=keepFA (.cells #[.int k n] 243) hcell hfz
 simp [wpOpsS,go_sem,h1,h2,bodyPostS,results,Tryz.results55]
 have s1:Sts W0 (W.alloc (.cells #[.int k n] 243)) (Bk b t C::L):=((hs.newBk 243 [.int k n]).p1).perm (List.Perm.swap _ _ _) |>.tail
 refine ⟨rfl,?_⟩
 unfold Bk at s1 ⊢
 have:=s1.set (o:=o) (.int k n)
 simpa using this
theorem endd:Endd Tryz.prog where
 inv x w:=by
  simp only [invoke]
  exact en55 (#[x]++#[]) w
 quiet:=endd_quiet
 caught:=endd_caught
end
section
set_option maxRecDepth 100000
namespace KK
def x0:O:=.l 0
def x1:O:=.l 1
def x2:O:=.l 2
def x3:O:=.l 3
def x4:O:=.l 4
def x5:O:=.l 5
def x6:O:=.l 6
def x7:O:=.l 7
def x8:O:=.l 8
def x9:O:=.l 9
def x10:O:=.l 10
def x11:O:=.l 11
def x12:O:=.l 12
def x13:O:=.l 13
def x14:O:=.l 14
def x15:O:=.l 15
def x16:O:=.l 16
def x17:O:=.l 17
def x18:O:=.l 18
def x21:O:=.l 21
def x24:O:=.l 24
def x26:O:=.l 26
def t1:O:=.t p1
def t2:O:=.t p2
def t3:O:=.t p3
def t4:O:=.t p4
def t5:O:=.t p5
def t6:O:=.t p6
def t7:O:=.t p7
def t8:O:=.t p8
def t9:O:=.t p9
def t10:O:=.t p10
def t11:O:=.t p11
def t12:O:=.t p12
def t13:O:=.t p13
def t14:O:=.t p14
def t15:O:=.t p15
def t16:O:=.t p16
def t17:O:=.t p17
def t18:O:=.t p18
def t19:O:=.t p19
def t20:O:=.t p20
def t21:O:=.t p21
def t22:O:=.t p22
def t23:O:=.t p23
def t24:O:=.t p24
def t25:O:=.t p25
def t26:O:=.t p26
def t27:O:=.t p27
def t28:O:=.t p28
def t29:O:=.t p29
def t30:O:=.t p30
def t31:O:=.t p31
def t32:O:=.t p32
def t33:O:=.t p33
def t34:O:=.t p34
def t35:O:=.t p35
def t36:O:=.t p36
def t37:O:=.t p37
def t38:O:=.t p38
def t39:O:=.t p39
def t40:O:=.t p40
def t41:O:=.t p41
def t42:O:=.t p42
def t43:O:=.t p43
def t44:O:=.t p44
def t45:O:=.t p45
def t46:O:=.t p46
def t47:O:=.t p47
def t48:O:=.t p48
def t49:O:=.t p49
def t50:O:=.t p50
def t51:O:=.t p51
def t52:O:=.t p52
def t54:O:=.t p54
def t55:O:=.t p55
def t56:O:=.t p56
def t58:O:=.t p58
def t59:O:=.t p59
def t60:O:=.t p60
def t61:O:=.t p61
def t62:O:=.t p62
def t63:O:=.t p63
def t64:O:=.t p64
def t65:O:=.t p65
def t66:O:=.t p66
def t67:O:=.t p67
def t68:O:=.t p68
def t69:O:=.t p69
def t71:O:=.t p71
def t72:O:=.t p72
def t73:O:=.t p73
def t74:O:=.t p74
def t75:O:=.t p75
def t76:O:=.t p76
def t80:O:=.t p80
def t81:O:=.t p81
def t82:O:=.t p82
def t83:O:=.t p83
def t84:O:=.t p84
def t85:O:=.t p85
def t86:O:=.t p86
def t88:O:=.t p88
def t89:O:=.t p89
def t92:O:=.t p92
def t106:O:=.t p106
def t108:O:=.t p108
def t111:O:=.t p111
def t112:O:=.t p112
def t113:O:=.t p113
def t114:O:=.t p114
def t115:O:=.t p115
def t116:O:=.t p116
def t120:O:=.t p120
def t127:O:=.t p127
def t128:O:=.t p128
def t129:O:=.t p129
def t131:O:=.t p131
def t133:O:=.t p133
def t161:O:=.t p161
def S (l:List CO) (w:List (Pos × Nat)) (c:CC):CC:=.seq (.ops l w) c
def o0:CO:=.v none (.mv x0) 0
def o1:CO:=.v none (.ld x0) 0
def o2:CO:=.v none (.mv t1) 0
def o3:CO:=.v none (.mv (.c (.i .i64 0))) 0
def o4:CO:=.v none (.mv x1) 0
def o5:CO:=.v none (.mv t2) 0
def o6:CO:=.v none (.nc x0) 0
def o7:CO:=.v none (.ext x0 0) 0
def o8:CO:=.v none (.ext x1 1) 0
def o9:CO:=.v none (.mv x2) 0
def o10:CO:=.v none (.mv t3) 0
def o11:CO:=.v none (.mv t8) 0
def o12:CO:=.v none (.mv t10) 0
def o13:CO:=.v none (.mv (.c (.b false))) 0
def o14:CO:=.v none (.fa 1 x0) 0
def o15:CO:=.v none (.mv t6) 0
def o16:CO:=.v none (.mv t7) 0
def o17:CO:=.v none (.mv t11) 0
def o18:CO:=.v none (.ar .neq .o x0 (.c (.i .i64 0))) 0
def o19:CO:=.v none (.mv t4) 0
def o20:CO:=.v none (.fa 0 x0) 0
def o21:CO:=.v none (.mv (.c (.s 0 0))) 0
def o22:CO:=.v none (.mv (.c .sn)) 0
def o23:CO:=.v none (.ln .l x0) 0
def o24:CO:=.v none (.mv t14) 0
def o25:CO:=.v none (.not x0) 0
def o26:CO:=.e none (.st 1 x0 x1)
def o27:CO:=.v none (.mv t5) 0
def o28:CO:=.v none (.fa 0 t4) 0
def o29:CO:=.v none (.mv t9) 0
def o30:CO:=.v none (.ld x0) 1
def o31:CO:=.v none (.mv t12) 0
def o32:CO:=.v none (.mv t15) 0
def o33:CO:=.v none (.ext x2 2) 0
def o34:CO:=.v none (.mv (.c .pn)) 0
def o35:CO:=.v none (.pick x2 (.c (.b true)) x0) 0
def o36:CO:=.v none (.fa 2 x0) 0
def o37:CO:=.v none (.mv t13) 0
def o38:CO:=.v none (.mv t16) 0
def o39:CO:=.v none (.mv (.c (.i .i64 1))) 0
def o40:CO:=.v none (.pick x2 x0 (.c (.b false))) 0
def o41:CO:=.v none (.cvi .u64 x0) 0
def o42:CO:=.v none (.mv x3) 0
def o43:CO:=.v none (.cvi .i64 x0) 0
def o44:CO:=.v none (.ar .add .o x0 (.c (.i .i64 1))) 0
def o45:CO:=.v none (.ia 1 x1 x0) 0
def o46:CO:=.v none (.fa 2 t4) 0
def o47:CO:=.v none (.ldn 2 x0) 0
def o48:CO:=.v none (.bld z34 []) 0
def o49:CO:=.v none (.mv (.c (.b true))) 0
def o50:CO:=.v (some (.l 1,true)) (.ld x0) 0
def o51:CO:=.v (some (.l 3,true)) (.ld x0) 0
def o52:CO:=.v (some (.l 0,true)) (.mv t1) 0
def o53:CO:=.v none .bad 0
def o54:CO:=.v none (.ar .eql .o x0 (.c (.i .i64 0))) 0
def o55:CO:=.v none (.ldn 4 x0) 0
def o56:CO:=.e none (.st 6 x0 x2)
def o57:CO:=.v (some (.l 1,false)) (.ld x0) 0
def o58:CO:=.v (some (.l 0,false)) (.mv t1) 0
def o59:CO:=.c none p105 [x0]
def o60:CO:=.v none (.pick x3 x0 (.c (.b false))) 0
def o61:CO:=.v (some (.l 0,true)) (.mv t8) 0
def o62:CO:=.e none (.al 81 z81)
def o63:CO:=.v none (.pick x3 (.c (.b true)) x0) 0
def o64:CO:=.v none (.ln .s x0) 0
def o65:CO:=.v none (.fa 1 t4) 0
def o66:CO:=.e none (.al 94 z94)
def o67:CO:=.v none (.fa 6 x0) 0
def o68:CO:=.v none (.nc x1) 0
def o69:CO:=.v none (.ar .sub .o x0 (.c (.i .i64 1))) 0
def o70:CO:=.v none (.fa 10 x0) 0
def o71:CO:=.v none (.pick x4 (.c (.b true)) x0) 0
def o72:CO:=.v none (.fa 0 t9) 0
def o73:CO:=.v none (.ar .add .o x0 (.c (.i .u64 1))) 0
def o74:CO:=.e none (.st 1 x0 x2)
def o75:CO:=.v none (.ar .add .o x1 x0) 0
def o76:CO:=.e none (.st 4 x0 x2)
def o77:CO:=.v none (.ldn 3 x0) 0
def o78:CO:=.v none (.fa 12 x0) 0
def o79:CO:=.v none (.fa 3 t4) 0
def o80:CO:=.c none p148 [x1,x0]
def o81:CO:=.v none (.fa 3 x0) 0
def o82:CO:=.v none (.mv (.c (.i .i64 3))) 0
def o83:CO:=.v none (.ar .lss .o x0 (.c (.i .i64 0))) 0
def o84:CO:=.v (some (.l 0,false)) (.mv t2) 0
def o85:CO:=.v (some (.l 1,true)) (.nc x0) 0
def o86:CO:=.v none (.fa 8 x0) 0
def o87:CO:=.v none (.fa 11 x0) 0
def o88:CO:=.e none (.st 3 x0 x1)
def o89:CO:=.e none (.al 112 z112)
def o90:CO:=.v none (.ar .eql .o x0 (.c (.i .i64 1))) 0
def o91:CO:=.e none (.st 6 t5 x0)
def o92:CO:=.v none (.mv (.c (.i .u64 0))) 0
def o93:CO:=.v none (.ld x0) 2
def o94:CO:=.e none (.al 34 z34)
def o95:CO:=.c none p60 [x2,x0]
def o96:CO:=.v none (.fa 2 t9) 0
def o97:CO:=.v none (.fa 4 t4) 0
def o98:CO:=.v none (.fa 0 t2) 0
def o99:CO:=.v none (.ar .neq .p x0 (.c .pn)) 0
def o100:CO:=.v none (.fa 0 t6) 0
def o101:CO:=.e none (.al 83 z83)
def o102:CO:=.e none (.st 6 t5 x1)
def o103:CO:=.v none (.ldn 4 t4) 0
def o104:CO:=.c none p62 [x6,x0]
def o105:CO:=.e none (.box 94 t2)
def o106:CO:=.v (some (.l 1,true)) (.ar .eql .o x0 (.c (.i .i64 1))) 0
def o107:CO:=.v none (.pick x5 x0 (.c (.b false))) 0
def o108:CO:=.v (some (.l 1,false)) (.ar .neq .o x0 (.c (.i .i64 0))) 0
def o109:CO:=.v none (.mv (.c (.i .i64 5))) 0
def o110:CO:=.e none (.rng x0)
def o111:CO:=.e none (.al 96 z96)
def o112:CO:=.v none (.bld z62 [(0,1,x2),(1,1,x0)]) 0
def o113:CO:=.v none (.fa 0 t8) 0
def o114:CO:=.v none (.ldn 4 t5) 0
def o115:CO:=.e none (.al 60 z60)
def o116:CO:=.e none (.al 27 z27)
def o117:CO:=.v none (.fa 3 t10) 0
def o118:CO:=.c none p57 [x0,(.c (.i .i64 3))]
def o119:CO:=.v (some (.l 2,true)) (.fa 1 x0) 0
def o120:CO:=.v (some (.l 3,false)) (.ld x0) 0
def o121:CO:=.e none (.st 2 t5 x0)
def o122:CO:=.v none (.cvs x0) 0
def o123:CO:=.v none (.fa 0 t3) 0
def o124:CO:=.v none (.bld z83 []) 0
def o125:CO:=.e none (.box 83 t1)
def o126:CO:=.v none (.ar .sub .o x1 x0) 0
def o127:CO:=.v none (.fa 4 t7) 0
def o128:CO:=.v none (.fa 0 t7) 0
def o129:CO:=.v none (.sln 4 x1 x0) 0
def o130:CO:=.v none (.ar .add .o (.c (.i .i64 1)) x0) 0
def o131:CO:=.v none (.mv x4) 0
def o132:CO:=.v none (.mv t17) 0
def o133:CO:=.v none (.mv t18) 0
def o134:CO:=.e none (.st 4 x0 x1)
def o135:CO:=.e none (.st 2 x0 x2)
def o136:CO:=.v none (.ar .geq .o x0 (.c (.i .i64 0))) 0
def o137:CO:=.v (some (.l 4,true)) (.ld x0) 0
def o138:CO:=.v none (.pick x7 x0 (.c (.b false))) 0
def o139:CO:=.v none (.fa 4 t10) 0
def o140:CO:=.e none (.st 1 x0 x9)
def o141:CO:=.v none (.fa 4 x0) 0
def o142:CO:=.v none (.mv (.c (.i .i64 4))) 0
def o143:CO:=.e none (.al 188 z188)
def o144:CO:=.v none (.ar .eql .o x0 (.c (.i .i64 2))) 0
def o145:CO:=.v none (.fa 4 t6) 0
def o146:CO:=.v none (.ar .add .s x1 x0) 0
def o147:CO:=.v none (.fa 9 x0) 0
def o148:CO:=.e none (.box 120 t1)
def o149:CO:=.v none (.fa 0 t5) 0
def o150:CO:=.e none (.mkm .i64)
def o151:CO:=.v none (.mv t20) 0
def o152:CO:=.v none (.ldn 6 x0) 0
def o153:CO:=.e none (.st 6 x0 x1)
def o154:CO:=.v none (.fa 3 t6) 0
def o155:CO:=.v none (.pick x4 x0 (.c (.b false))) 0
def o156:CO:=.v none (.ia 1 x2 x0) 0
def o157:CO:=.c none p63 [x4,x2,x0]
def o158:CO:=.c none p23 [x1,x0]
def o159:CO:=.v none (.nc x4) 0
def o160:CO:=.v none (.ldn 3 t6) 0
def o161:CO:=.e none (.st 6 t11 x0)
def o162:CO:=.e none (.st 13 x0 x1)
def o163:CO:=.v none (.ldn 13 t17) 0
def o164:CO:=.v none (.ar .lss .o x2 x0) 0
def o165:CO:=.v none (.ldn 9 x0) 0
def o166:CO:=.v (some (.l 0,true)) (.mv t2) 0
def o167:CO:=.e none (.st 4 t3 x0)
def o168:CO:=.v (some (.l 0,false)) (.mv t7) 0
def o169:CO:=.v none (.bld z81 []) 0
def o170:CO:=.e none (.st 13 t3 x0)
def o171:CO:=.v none (.ldn 5 x0) 0
def o172:CO:=.e none (.st 5 x0 x1)
def o173:CO:=.e none (.box 81 t1)
def o174:CO:=.v none (.fa 2 t5) 0
def o175:CO:=.c none p88 [x0]
def o176:CO:=.v none (.ar .lss .o x1 x0) 0
def o177:CO:=.e none (.st 2 x0 x1)
def o178:CO:=.v none (.ext x0 1) 0
def o179:CO:=.e none (.al 147 z147)
def o180:CO:=.v (some (.l 5,true)) (.ld x0) 0
def o181:CO:=.v (some (.l 5,false)) (.ld x0) 0
def o182:CO:=.v none (.fa 2 t6) 0
def o183:CO:=.v none (.ar .lss .o x0 (.c (.i .i64 1))) 0
def o184:CO:=.c none p26 [x2,x0]
def o185:CO:=.v none (.ld t2) 0
def o186:CO:=.v (some (.l 4,true)) (.mv t1) 0
def o187:CO:=.v none (.fa 1 t3) 0
def o188:CO:=.v none (.bld z201 []) 0
def o189:CO:=.v none (.ld t11) 0
def o190:CO:=.v none (.bld z205 []) 0
def o191:CO:=.v (some (.l 7,true)) (.ld x0) 0
def o192:CO:=.v none (.ldn 2 t3) 0
def o193:CO:=.v none (.mx (.c (.i .i64 1)) x0) 0
def o194:CO:=.v none (.ar .eql .o x1 x0) 0
def o195:CO:=.e none (.st 3 t5 x0)
def o196:CO:=.v none (.ar .neq .o x0 (.c (.i .i64 1))) 0
def o197:CO:=.v none (.ldn 13 t15) 0
def o198:CO:=.e none (.bsl 3 1 1 [(.i .i64 0)] [(0,1,x0)])
def o199:CO:=.c none p26 [x4,x0]
def o200:CO:=.v (some (.l 3,false)) (.not x0) 0
def o201:CO:=.v none (.ldn 5 t4) 0
def o202:CO:=.v (some (.l 1,true)) (.mv t1) 0
def o203:CO:=.v (some (.l 2,true)) (.nc x0) 0
def o204:CO:=.e none (.box 60 t2)
def o205:CO:=.v none (.fa 7 x0) 0
def o206:CO:=.v none (.ar .add .o t12 (.c (.i .i64 1))) 0
def o207:CO:=.v (some (.l 0,false)) (.mv t8) 0
def o208:CO:=.v none (.ar .add .o t16 (.c (.i .i64 1))) 0
def o209:CO:=.e none (.st 6 t11 x1)
def o210:CO:=.v none (.fa 2 t2) 0
def o211:CO:=.v none (.fa 3 t2) 0
def o212:CO:=.v none (.bld z112 []) 0
def o213:CO:=.v none (.ldn 3 t8) 0
def o214:CO:=.e none (.st 3 x0 x2)
def o215:CO:=.v none (.mv t23) 0
def o216:CO:=.v none (.ldn 7 t4) 0
def o217:CO:=.v none (.fa 1 t6) 0
def o218:CO:=.e none (.box 171 x0)
def o219:CO:=.v none (.cvi .u8 x0) 0
def o220:CO:=.e none (.bsl 5 1 1 [(.i .u8 0)] [(0,1,x0)])
def o221:CO:=.v none (.ld t4) 0
def o222:CO:=.v none (.pick x5 (.c (.b true)) x0) 0
def o223:CO:=.v (some (.l 0,false)) (.mv t3) 0
def o224:CO:=.v (some (.l 1,false)) (.mv t1) 0
def o225:CO:=.v (some (.l 1,false)) (.nc x0) 0
def o226:CO:=.e none (.st 4 t7 x0)
def o227:CO:=.e none (.al 201 z201)
def o228:CO:=.v (some (.l 3,false)) (.ar .neq .o x1 x0) 0
def o229:CO:=.v none (.fa 6 t3) 0
def o230:CO:=.v none (.ldn 9 t3) 0
def o231:CO:=.e none (.st 9 t5 x0)
def o232:CO:=.v none (.ldn 5 t13) 0
def o233:CO:=.v none (.ar .eql .p x0 (.c .pn)) 0
def o234:CO:=.v none (.ar .rem .o x4 x0) 0
def o235:CO:=.v (some (.l 1,true)) (.ar .eql .o x0 (.c (.i .i64 0))) 0
def o236:CO:=.v (some (.l 4,true)) (.ar .eql .o x2 x0) 0
def o237:CO:=.e none (.bsl 64 4 1 [(.i .i64 0),(.i .i64 0),(.i .i64 0),(.i .i64 0)] [(0,4,x0)])
def o238:CO:=.v (some (.l 0,false)) (.mv t16) 0
def o239:CO:=.v none (.bld z94 [(0,1,(.c (.i .i64 2))),(2,1,x0)]) 0
def o240:CO:=.e none (.st 13 x0 x2)
def o241:CO:=.v none (.mv (.c (.i .i64 9))) 0
def o242:CO:=.e none (.st 8 t3 x2)
def o243:CO:=.v (some (.l 2,false)) (.ar .eql .o x0 (.c (.i .i64 1))) 0
def o244:CO:=.v none (.iar 3 1 t12 (.c (.i .i64 0))) 0
def o245:CO:=.v none (.ar .gtr .o x0 (.c (.i .i64 4096))) 0
def o246:CO:=.v (some (.l 2,false)) (.not x0) 0
def o247:CO:=.v (some (.l 1,true)) (.ar .eql .o x0 (.c (.i .i64 2))) 0
def o248:CO:=.v (some (.l 1,true)) (.ar .eql .o x0 (.c (.i .i64 3))) 0
def o249:CO:=.v (some (.l 3,false)) (.mv x0) 0
def o250:CO:=.v none (.ar .lss .o t16 t15) 0
def o251:CO:=.v none (.ar .add .s x3 x0) 0
def o252:CO:=.e none (.st 3 t6 x1)
def o253:CO:=.v none (.mv (.c (.i .i64 7))) 0
def o254:CO:=.v none (.ar .add .o t9 (.c (.i .i64 1))) 0
def o255:CO:=.v none (.ar .eql .l x0 (.c .sn)) 0
def o256:CO:=.v none (.ar .lss .o t14 t13) 0
def o257:CO:=.v none (.ar .add .o t14 (.c (.i .i64 1))) 0
def o258:CO:=.v none (.ixs x1 x0) 0
def o259:CO:=.v (some (.l 1,false)) (.mv t4) 0
def o260:CO:=.e none (.st 4 x0 x3)
def o261:CO:=.v none (.bld z94 [(0,1,(.c (.i .i64 1))),(1,1,x0)]) 0
def o262:CO:=.v (some (.l 3,false)) (.ar .gtr .o x2 x0) 0
def o263:CO:=.v (some (.l 0,true)) (.fa 3 t2) 0
def o264:CO:=.v (some (.l 2,true)) (.ln .s x0) 0
def o265:CO:=.v (some (.l 8,true)) (.ld x0) 0
def o266:CO:=.c (some (.l 2,false)) p132 [x1,x0]
def o267:CO:=.v (some (.l 0,true)) (.mv t5) 0
def o268:CO:=.e none (.st 7 x0 x1)
def o269:CO:=.v (some (.l 2,true)) (.ld x0) 0
def o270:CO:=.v none (.iar 2 1 t13 (.c (.i .i64 0))) 0
def o271:CO:=.v none (.iar 2 1 t13 (.c (.i .i64 1))) 0
def o272:CO:=.e none (.st 9 x0 x2)
def o273:CO:=.e none (.st 1 x0 x3)
def o274:CO:=.e none (.st 1 x0 x5)
def o275:CO:=.v none (.ar .add .o t18 (.c (.i .i64 1))) 0
def o276:CO:=.e none (.st 4 t11 x1)
def o277:CO:=.c none p184 [x2,x0]
def o278:CO:=.v none (.iar 2 1 t10 (.c (.i .i64 0))) 0
def o279:CO:=.e none (.st 1 x0 x8)
def o280:CO:=.v none (.ixs x0 (.c (.i .i64 0))) 0
def o281:CO:=.e none (.st 5 t13 x2)
def o282:CO:=.v none (.mv (.c (.i .i64 12))) 0
def o283:CO:=.c none p239 [x2,x0]
def o284:CO:=.v (some (.l 6,true)) (.ia 1 x2 x0) 0
def o285:CO:=.v none (.pick x8 x0 (.c (.b false))) 0
def o286:CO:=.v none (.bld z208 [(0,1,x0)]) 0
def o287:CO:=.e none (.st 4 t6 x1)
def o288:CO:=.v (some (.l 2,false)) (.fa 1 x0) 0
def o289:CO:=.v (some (.l 7,false)) (.ld x0) 0
def o290:CO:=.v none (.sln 4 x3 x0) 0
end KK
open KK
def k3:CF:=⟨[.t p5],(S [o13] [(p5,0)] (S [.c none p6 [(.c (.s 2 513)),(.c (.s 3 197121)),(.c (.i .i64 1000))],o0,o7,o8,o33,o9,o9,o9] [(p6,2),(p7,1),(p8,0)] (.seq (S [o15,o233] [(p25,0)] (.cond t25 (S [o13] [(p5,0)] .ret) .skip)) (S [o16,o15,.c none p8 [x0,(.c (.i .i64 0))],.c none p7 [x2,(.c (.i .i64 0)),(.c (.i .i64 0)),(.c (.i .u64 5)),x0],o0,o7,o8,o4,o4] [(p9,1),(p10,0)] (.seq (.drw [0,1,2,3,4,5,10,6,7,8,9,11,12,13,14,15,16,17,18] [o11,o29,o2,o5,o43,o15,o15,.c none p10 [x1],o193,o234,o130,.c none p8 [x4,(.c (.i .i64 1))],.c none p9 [x11,x10,x9,x1,x0],o0,o7,o8,.fl 34 z34,o56,o9] [(p11,2),(p12,0)]) (.seq (.drw [0,1,2,3,4,5,6,11,7,8,9,10,12,13,14,15,16,17,18,19] [o16,.v none (.fa 4 t11) 0,o93,o2,o5,o43,o15,o15,.c none p10 [x1],o193,o234,o130,.c none p8 [x4,(.c (.i .i64 2))],.c none p9 [x12,x10,x9,x1,x0],o0,o7,o8,.fl 34 z34,o56,o9] [(p13,2),(p14,0)]) (S [o16,.c none p11 [x0,(.c (.i .i64 0)),(.c (.s 4 1952807028))],o0,o7,o8,o4,o4] [(p15,1),(p16,0)] (.seq (.drw [0,1,2,3,4,5,10,6,7,8,9,11,12,13,14,15,16,17,18] [o11,o32,o2,o5,o43,o15,o15,.c none p10 [x1],o193,o234,o130,.c none p8 [x4,(.c (.i .i64 3))],.c none p9 [x11,x10,x9,x1,x0],o0,o7,o8,.fl 34 z34,o56,o9] [(p17,2),(p18,0)]) (.seq (.drw [0,1,2,3,4,5,6,7,8,9,10,11,12,13,14,15,16,17,18,19,20,21,22,23,24,25,26,27,28,29,30,31,32,33,34,35,36,37,38,39,40,41,42,43,45,46,44,47,48,49,50,51,53,54,52,55,56,57,58,59,60,61] [o12,o54,o0,.v (some (.l 0,true)) (.mv t16) 0,o235,o40,o0,.v (some (.l 0,true)) (.mv t12) 0,o106,o40,o0,.v (some (.l 0,true)) (.mv t14) 0,o106,o40,o0,.v (some (.l 0,true)) (.mv t18) 0,o106,o40,o0,.v (some (.l 0,true)) (.fa 3 t11) 0,o50,.v (some (.l 2,true)) (.ar .gtr .o x0 (.c (.i .i64 0))) 0,o60,o0,.v (some (.l 0,true)) (.fa 3 t13) 0,o50,.v (some (.l 2,true)) (.fa 3 t11) 0,o51,o236,o107,o0,.v (some (.l 0,true)) (.fa 3 t17) 0,o50,.v (some (.l 2,true)) (.fa 3 t11) 0,o51,o236,o107,o0,.v (some (.l 0,true)) (.fa 1 t17) 0,o50,.v (some (.l 2,true)) (.ar .eql .s x0 (.c (.s 4 1952807028))) 0,o60,o0,.v (some (.l 0,true)) (.mv t7) 0,.v (some (.l 1,true)) (.fa 3 t11) 0,.v (some (.l 2,true)) (.ld x0) 1,.c (some (.l 3,true)) p13 [x2,(.c (.i .i64 0))],.fb (some (.l 4,true)) 3 1 1 [(.i .i64 0)] [(0,1,x1)],.c (some (.l 5,true)) p12 [x1,x0],.v none (.pick x6 x0 (.c (.b false))) 0,o0,o61,.v (some (.l 1,true)) (.fa 3 t11) 0,.v (some (.l 2,true)) (.ld x0) 1,.c (some (.l 3,true)) p13 [x2,(.c (.i .i64 0))],.fb (some (.l 4,true)) 3 1 1 [(.i .i64 0)] [(0,1,x1)],.c (some (.l 5,true)) p12 [x1,x0],.v none (.pick x6 x0 (.c (.b false))) 0,o0,.c (some (.l 0,true)) p14 [],.v none (.pick x1 x0 (.c (.b false))) 0,o0] [(p5,0)]) .ret))))))))),17039347,2⟩
def k5:CF:=⟨[.t p7,.t p8,.t p9],(S [o34,o34,o34] [(p7,2),(p8,1),(p9,0)] (S [.c none p21 [],o0,o7,o8,o33,.e none (.al 61 z61),.e none (.al 65 z65),o131,.e none (.st 4 x2 x4),.e none (.st 8 x2 x4)] [(p10,2),(p11,4),(p12,3)] (.seq (S [o12,o233] [(p23,0)] (.cond t23 (S [o34,o34,o34] [(p7,2),(p8,1),(p9,0)] .ret) .skip)) (S [o12,.v none (.iar 2 2 t11 (.c (.i .i64 0))) 0,o47,.v none (.iar 2 4 t12 (.c (.i .i64 0))) 0,o55,o237,o2,o10,.v none (.bld z72 [(0,2,x5),(2,1,x2),(3,1,x1),(4,1,x0)]) 0,.c none p22 [x8,x0],o0,o7,o8,o4,o4] [(p13,1),(p14,0)] (S [o12,.v none (.iar 2 2 t11 (.c (.i .i64 1))) 0,o47,.v none (.iar 2 4 t12 (.c (.i .i64 1))) 0,o55,o237,o5,o10,.v none (.bld z72 [(0,2,x5),(2,1,x2),(3,1,x1),(4,1,x0)]) 0,.c none p22 [x8,x0],o0,o7,o8,o4,o4] [(p15,1),(p16,0)] (.seq (S [o24,o18,o0,o238,o108,o35,o0,.v (some (.l 0,false)) (.mv t13) 0,.v (some (.l 1,false)) (.ar .eql .p x0 (.c .pn)) 0,o35,o0,.v (some (.l 0,false)) (.mv t15) 0,.v (some (.l 1,false)) (.ar .eql .p x0 (.c .pn)) 0,o35] [(p63,0)] (.cond t63 (S [o34,o34,o34] [(p7,2),(p8,1),(p9,0)] .ret) .skip)) (S [o12,o37,o32,o9,o9,o9] [(p7,2),(p8,1),(p9,0)] .ret))))))),4611686018431647687,3⟩
def k6:CF:=⟨[.t p11,.t p12],(S [.e none (.box 31 t5),o22,o3] [(p10,2),(p11,1),(p12,0)] (.seq (S [o2,o5,o158,o25] [(p22,0)] (.cond t22 (S [o22,o109] [(p11,1),(p12,0)] .ret) .skip)) (S [o19,o2,o6,o86,o1,o73,.v none (.mx x5 x0) 0,o0] [(p13,0)] (.seq (.drw [0,1,2,3,4,5,6,7,8,9,10,11,12,13,14,15,16,17,18,19,20,21,22,23,24,25,26,27,28,29,30,31,32,33,34,35,36,37,38,39] [o2,o6,o20,o1,o2,o6,o14,o20,o47,o2,o6,o14,o36,o1,o5,.v none (.ia 4 x1 x0) 0,o55,o2,o6,o67,o1,o2,o6,o14,o81,o1,o10,.v none (.bld z81 [(1,1,x6),(3,1,x1),(4,1,x0)]) 0,o37,.v none (.ldn 3 t10) 0,.c none p24 [x26,x21,x13,x2,x1,x0],o0,o7,o8,o33,.fl 81 z81,.fl 85 z85,.e none (.st 13 x1 x4),.e none (.st 7 x1 x4),o131] [(p14,4),(p15,3),(p16,0)]) (.seq (S [o38,o18] [(p66,0)] (.cond t66 (S [o38,o22,o4] [(p11,1),(p12,0)] .ret) .skip)) (.seq (S [o2,o6,o87,o1,o110] [(p72,0)] (.block 0 (.loop (S [.e none (.nxt t72),o7] [(p74,0)] (.seq (.cond t74 .skip (.exit 0)) (.block 1 (S [.e none (.ent t72),o7,o8,.e none (.al 89 z89),o9,.e none (.st 9 x1 x2)] [(p17,1),(p18,2)] (S [.v none (.fa 0 t18) 0,o1,o5,o194] [(p81,0)] (.cond t81 (.ops [o2,o6,o87,o1,o132,.e none (.del .u64 x1 x0)] []) .skip))))))))) (.seq (.drw [0,1,2,3,4,5,6,7,8,9,10,11,12] [o2,o6,o87,o1,o2,o6,o67,o1,o5,.v none (.ldn 7 t15) 0,o19,.v none (.bld z89 [(0,1,x2),(1,7,x1),(8,1,x0)]) 0,.e none (.mu .u64 x8 x4 x0)] []) (S [o2,o37,o68,o86,o74] [] (S [o2,o6,o67,o1,o73,o159,o67,o74] [] (S [o2,.v none (.ldn 13 t14) 0,.c none p25 [x1,x0],o0,o3] [(p11,1),(p12,0)] .ret)))))))))),1220768629309950709202463,5⟩
def k7:CF:=⟨[.c p5 3 true],(S [.e none (.al 31 z31)] [(p5,0)] (S [.v none (.bld z31 []) 0,.e none (.al 31 z31),o88] [(p6,1)] (.seq (S [o3] [(p7,0)] (.block 0 (.loop (.seq (S [o16,.v none (.ar .lss .o x0 (.c (.i .i64 3))) 0] [(p12,0)] (.cond t12 .skip (.exit 0))) (.seq (.block 1 (S [o2,o5,.v none (.ar .mul .o (.c (.i .i64 3)) x0) 0,.v none (.ar .add .o (.c (.i .i64 1000)) x0) 0,o16,o75,o41,o239,.c none p26 [x7,x0],o0,o7,o8,o4,o4] [(p8,1)] (.ops [o16,o11,.v none (.iar 3 1 t6 x1) 0,o26] []))) (.ops [o16,o44,o0] [(p7,0)])))))) (S [o160,o195] [] .ret)))),2291,2⟩
def k8:CF:=⟨[.c p11 6 true,.t p12],(S [.e none (.box 31 t5),o94,o3] [(p10,2),(p11,1),(p12,0)] (.seq (S [o5,o23,o196] [(p23,0)] (.cond t23 (S [o48,o161,o3] [(p12,0)] .ret) .skip)) (S [o5,.v none (.ia 1 x0 (.c (.i .i64 0))) 0,o1,.c none p27 [x0],o0,o7,o8,o111,o76,o9] [(p13,2),(p14,0)] (S [.v none (.fa 3 t13) 0,o1,.c none p28 [x0],o0,o7,o8,o62,o240,o9] [(p15,2),(p16,0)] (S [o197,o10,o19,.c none p29 [x2,x1,x0],o62,o162] [(p17,1)] (.seq (S [o24,o18,o0,o238,o108,o35] [(p47,0)] (.cond t47 (S [o48,o161,o3] [(p12,0)] .ret) .skip)) (S [o241] [(p18,0)] (.seq (S [o163,o197,.v none (.ar .neq (.a z81) x1 x0) 0] [(p51,0)] (.cond t51 (S [o163,.c none p30 [x0],.v none (.fa 3 t13) 0,o26] [] (.drw [0,1,3,4,5,6,7,2,8,9,10,11,12] [o2,.v none (.ldn 4 t13) 0,.v none (.iar 3 1 t10 (.c (.i .i64 0))) 0,o30,.v none (.iar 3 1 t10 (.c (.i .i64 1))) 0,o30,o112,.c none p32 [x5],.c none p31 [x7,(.c (.i .i64 0)),x0,(.c (.i .u64 6)),x1],o0,o7,o8,o0] [(p18,0)])) .skip)) (.seq (.drw [0,1,2,3,4,5,6,7,8,9,10,11,12,13,14,15] [o2,o5,.v none (.ia 1 x0 (.c (.i .i64 0))) 0,o1,.v none (.iar 3 1 t10 (.c (.i .i64 0))) 0,o1,.v none (.iar 3 1 t10 (.c (.i .i64 1))) 0,o1,o112,.c none p31 [x8,(.c (.i .i64 0)),x5,(.c (.i .u64 6)),x0],o0,o7,o8,.fl 34 z34,o56,o9] [(p19,2),(p20,0)]) (.seq (S [o133,o54,o0,.v (some (.l 0,false)) (.mv t20) 0,o108,o35] [(p85,0)] (.cond t85 (S [.v none (.ldn 6 t19) 0,o161,o3] [(p12,0)] .ret) .skip)) (S [.v none (.ldn 6 t19) 0,o161,o39] [(p12,0)] .ret))))))))))),19342813115030335451561503,5⟩
def k9:CF:=⟨[.t p3],(S [o3] [(p3,0)] (S [o2,o6,o20,o1,o23,o69,o0] [(p3,0)] .ret)),5,1⟩
def k10:CF:=⟨[.t p7,.t p8],(S [o22,o3] [(p7,1),(p8,0)] (S [o2,o5,.c none p33 [x1,x0],o0,o7,o8,o33,o89,o42,.e none (.st 3 x1 x3),o42] [(p9,2),(p10,3),(p11,0)] (.seq (S [o17,o18] [(p23,0)] (.cond t23 (S [o17,o22,o4] [(p7,1),(p8,0)] .ret) .skip)) (S [o29,o10,.c none p34 [x1,x0],o0,o7,o8,o33,.v none (.ext x3 3) 0,o42,o42,o42,o42] [(p11,0),(p12,3),(p13,2),(p14,1)] (.seq (S [o17,o18] [(p34,0)] (.cond t34 (S [o17,o22,o4] [(p7,1),(p8,0)] .ret) .skip)) (S [o2,.v none (.fa 1 t10) 0,o1,o31,o41,o37,o41,o24,.v none (.bld z81 [(0,1,(.c (.i .i64 4))),(2,1,x5),(11,1,x3),(12,1,x1),(9,1,x0)]) 0,.c none p25 [x8,x0],o0,o3] [(p7,1),(p8,0)] .ret)))))),8594145223,3⟩
def k11:CF:=⟨[.t p5],(S [o13] [(p5,0)] (.seq (S [o2,o23,o5,o23,.v none (.ar .neq .o x2 x0) 0] [(p11,0)] (.cond t11 (S [o13] [(p5,0)] .ret) .skip)) (.seq (S [o3] [(p6,0)] (.block 0 (.loop (.seq (S [o15,o2,o23,o164] [(p15,0)] (.cond t15 .skip (.exit 0))) (.seq (.block 1 (.seq (.drw [0,1,2,3,4,5,6,7,8] [o2,o15,o45,o1,o5,o15,o45,o1,.v none (.ar .neq .o x4 x0) 0] [(p26,0)]) (.cond t26 (S [o13] [(p5,0)] .ret) .skip))) (.ops [o15,o44,o0] [(p6,0)])))))) (S [o49] [(p5,0)] .ret)))),33571891,2⟩
def k12:CF:=⟨[.t p5],(S [o22] [(p5,0)] (.seq (S [o2,o5,o158,o25] [(p12,0)] (.cond t12 (S [o22] [(p5,0)] .ret) .skip)) (S [o22] [(p6,0)] (.seq (S [o2,o6,o70,o1,o5,o45,o1,o6,o14,o165,.c none p35 [x0],o23,o3] [(p23,2),(p24,1),(p25,0)] (.block 0 (.loop (S [.v none (.ar .lss .o t25 t24) 0] [(p26,0)] (.seq (.cond t26 .skip (.exit 0)) (.seq (.block 1 (S [.v none (.ia 3 t23 t25) 0,o77,o89,o88] [(p8,1)] (.drw [0,1,2,3,4,5,6,7,8,9,10,11,12] [o15,o2,o6,o78,o1,o113,o1,.v none (.lk .u64 .pn x2 x0 false) 0,.c none p36 [x0],.v none (.fld 0 1 false x0) 0,o198,.e none (.ap 3 1 8 x10 x0),o0] [(p6,0)]))) (.ops [.v none (.ar .add .o t25 (.c (.i .i64 1))) 0,o0] [(p25,0)]))))))) (S [o15,o0] [(p5,0)] .ret))))),62916787,2⟩
def k13:CF:=⟨[.t p1],(S [o13] [(p1,0)] (S [.c none p37 [(.c (.s 13 158768237371725874470269747456))],o0,o7,o8,o4,o4] [(p2,1),(p3,0)] (S [o10,o54,o0,o166,.v (some (.l 1,true)) (.ar .eql .s x0 (.c (.s 19 1073240079300444329018914101574259439016028938))) 0,o40,o0] [(p1,0)] .ret))),7,0⟩
def k16:CF:=⟨[.t p7,.t p8,.t p9],(S [o3,o3,o3] [(p7,2),(p8,1),(p9,0)] (.seq (S [o2,o5,o10,.c none p41 [x2,x1,x0],o25] [(p14,0)] (.cond t14 (S [o3,o3,o3] [(p7,2),(p8,1),(p9,0)] .ret) .skip)) (.seq (.drw [0,1,2,3,4,5,6,7,8,9,10,11,12,13,14,15,16] [o2,o6,o14,o30,o5,o45,o30,o5,o10,.c none p43 [x1,x0],.c none p42 [x3,x0],o7,o8,o33,o9,o9,o9] [(p7,2),(p8,1),(p9,0)]) .ret))),8647,3⟩
def k17:CF:=⟨[.t p7],(S [o22] [(p7,0)] (.seq (S [o2,o5,o10,.c none p41 [x2,x1,x0],o25] [(p12,0)] (.cond t12 (S [o22] [(p7,0)] .ret) .skip)) (.seq (.drw [0,1,2,3,4,5,6,7,8,9,10,11] [o2,o6,o14,o30,o5,o45,o30,o5,o10,.c none p43 [x1,x0],.c none p13 [x3,x0],o0] [(p7,0)]) .ret))),2119,3⟩
def k18:CF:=⟨[.t p3],(S [o22] [(p3,0)] (S [o2,o6,.v none (.fa 5 x0) 0,o1,.c none p44 [x0],o0] [(p3,0)] .ret)),5,1⟩
def k19:CF:=⟨[.c p3 4 true],(S [.e none (.al 56 z56)] [(p3,0)] (S [o3] [(p4,0)] (.seq (.block 0 (.loop (.seq (S [o19,.v none (.ar .lss .o x0 (.c (.i .i64 8))) 0,o0,o52,.v (some (.l 1,true)) (.mv t4) 0,.c (some (.l 2,true)) p45 [x1,x0],.v (some (.l 3,true)) (.ln .l x0) 0,.v (some (.l 4,true)) (.ar .gtr .o x0 (.c (.i .i64 0))) 0,o107] [(p14,0)] (.cond t14 .skip (.exit 0))) (.block 1 (.ops [o19,o44,o0] [(p4,0)]))))) (S [o2,.c none p19 [x0],o0] [(p5,0)] (S [o2,o19,.c none p46 [x1,x0],o27,.c none p47 [x0],o27,.c none p48 [x0],o2,o19,.c none p49 [x1,x0],.v none (.bld z56 [(0,1,x7),(1,1,x5),(2,1,x3),(3,1,x0)]) 0,o167] [] .ret))))),8221,1⟩
def k20:CF:=⟨[.t p1,.c p2 4 true,.c p3 8 true],(S [o34,.e none (.al 61 z61),.e none (.al 65 z65)] [(p1,2),(p2,1),(p3,0)] (S [.v none (.bld z65 []) 0,.e none (.al 65 z65),.e none (.st 8 x0 x1)] [(p4,1)] (S [.v none (.bld z60 [(0,1,(.c (.i .i64 1))),(1,1,(.c (.i .i64 2)))]) 0,.v none (.bld z60 [(0,1,(.c (.i .i64 3))),(1,1,(.c (.i .i64 4)))]) 0,.v none (.bld z61 [(0,2,x1),(2,2,x0)]) 0,.e none (.al 61 z61),o134] [(p5,1)] (S [.c none p50 [(.c (.i .i64 5000))],o0,o7,o8,o4,o4] [(p6,1),(p7,0)] (.seq (S [o15,o233,o0,o168,o108,o35] [(p26,0)] (.cond t26 (.seq (.drw [0,1,2,3,4] [o114,.v none (.ldn 8 t4) 1,o34,.e none (.st 4 t2 x2),o242] [(p1,2)]) .ret) .skip)) (.seq (S [o3] [(p8,0)] (.block 0 (.loop (.seq (S [o11,.v none (.ar .lss .o x0 (.c (.i .i64 14))) 0] [(p30,0)] (.cond t30 .skip (.exit 0))) (.seq (.block 1 (.ops [o15,o11,.v none (.ar .add .o (.c (.i .i64 100)) x0) 0,o41,o239,o199] [])) (.ops [o11,o44,o0] [(p8,0)])))))) (S [o15,.v none (.iar 2 2 t5 (.c (.i .i64 0))) 0,o47,.c none p51 [x2,x0],o0,o7,o8,o115,o135,o9] [(p9,2),(p10,0)] (S [o15,.v none (.iar 2 2 t5 (.c (.i .i64 1))) 0,o47,.c none p51 [x2,x0],o0,o7,o8,o115,o135,o9] [(p11,2),(p12,0)] (.seq (S [o12,o18,o0,.v (some (.l 0,false)) (.mv t12) 0,o108,o35] [(p58,0)] (.cond t58 (.seq (.drw [0,1,2,3,4] [o114,.v none (.ldn 8 t4) 1,o34,.e none (.st 4 t2 x2),o242] [(p1,2)]) .ret) .skip)) (.seq (.drw [0,1,2,3,4,5,6,7,8,9,10,11] [o15,o114,.v none (.ldn 2 t11) 1,.v none (.bld z62 [(0,1,(.c (.i .i64 5))),(1,1,(.c (.i .i64 6)))]) 0,.v none (.bld z64 [(0,2,x1),(2,2,x0)]) 0,.v none (.ldn 2 t9) 1,.v none (.bld z62 [(0,1,(.c (.i .i64 5))),(1,1,(.c (.i .i64 6)))]) 0,.v none (.bld z64 [(0,2,x1),(2,2,x0)]) 0,.v none (.bld z65 [(0,4,x3),(4,4,x0)]) 0,.v none (.mv x8) 0,.e none (.st 4 t2 x8),o242] [(p1,2)]) .ret)))))))))),144115188646285311,0⟩
def k21:CF:=⟨[.t p5,.t p6],(S [.e none (.box 72 t2),o34,o3] [(p4,2),(p5,1),(p6,0)] (S [o2,o28,o47,.c none p51 [x2,x0],o0,o7,o8,o115,o135,o9] [(p8,0)] (S [o46,o1,o23,.c none p52 [x0],o0,o7,o8,o4,o4] [(p9,1),(p10,0)] (.seq (S [o11,o18,o0,.v (some (.l 0,false)) (.mv t10) 0,o108,o35,o0,.v (some (.l 0,false)) (.fa 3 t4) 0,o57,.c (some (.l 2,false)) p53 [x0],o200,o71,o0,.v (some (.l 0,false)) (.fa 4 t4) 0,o57,.v (some (.l 2,false)) (.ar .lss .o x0 (.c (.i .i64 8))) 0,o63,o0,.v (some (.l 0,false)) (.fa 4 t4) 0,o57,.v (some (.l 2,false)) (.ar .gtr .o x0 (.c (.i .i64 1000))) 0,o63] [(p49,0)] (.cond t49 (S [o34,o39] [(p5,1),(p6,0)] .ret) .skip)) (S [o46,o1,.c none p54 [x0],o46,o26] [] (S [o2,o201,o29,.e none (.mkm .u64),.e none (.mkm .u64),.v none (.bld z79 [(0,1,x4),(1,5,x3),(6,1,(.c (.i .u64 1))),(7,1,(.c (.i .u64 1))),(9,1,x2),(11,1,x1),(12,1,x0)]) 0,.e none (.box 79 x0),o0] [(p11,0)] (.seq (S [o46,o1,o23,o3] [(p63,1),(p64,0)] (.block 0 (.loop (S [.v none (.ar .lss .o t64 t63) 0] [(p65,0)] (.seq (.cond t65 .skip (.exit 0)) (.seq (.block 1 (S [.c none p55 [(.c (.i .i64 4)),(.c (.i .i64 4096))],o0,o7,o8,o4,o4] [(p12,1),(p13,0)] (.seq (S [o37,o18] [(p71,0)] (.cond t71 (S [o37,o34,o4] [(p5,1),(p6,0)] .ret) .skip)) (.ops [o17,o17,o6,o70,o1,o31,.v none (.bld z122 [(0,1,x0)]) 0,.e none (.box 122 x0),.e none (.bsl 123 1 1 [.pn] [(0,1,x0)]),.e none (.ap 123 1 8 x4 x0),.v none (.nc x9) 0,o70,o74] [])))) (.ops [.v none (.ar .add .o t64 (.c (.i .i64 1))) 0,o0] [(p64,0)]))))))) (S [o17,o0,o3] [(p5,1),(p6,0)] .ret)))))))),1212873704321379737531,2⟩
def k22:CF:=⟨[.t p5],(S [o13] [(p5,0)] (S [o5,o136,o0,o166,o202,o203,.v (some (.l 3,true)) (.fa 10 x0) 0,o137,.v (some (.l 5,true)) (.ln .l x0) 0,.v (some (.l 6,true)) (.ar .lss .o x5 x0) 0,o138,o0] [(p5,0)] .ret)),19,2⟩
def k23:CF:=⟨[.c p13 13 true,.c p14 7 true,.c p15 1 false],(S [o204,.e none (.box 64 t3),.e none (.box 81 t4),.e none (.box 31 t6),o62,.e none (.al 85 z85),o116] [(p8,6),(p9,5),(p10,4),(p12,3),(p13,2),(p14,1),(p15,0)] (S [.df t15] [] (S [o139,o1,o54,o0,.v (some (.l 0,false)) (.fa 4 t10) 0,o57,o243,o63,.c none p57 [x0,(.c (.i .i64 1))]] [] (S [o2,o117,o1,o139,o1,o72,o47,.c none p58 [x6,x4,x2,x0],o0] [(p16,0)] (S [.v none (.fa 1 t10) 0,o1,o117,o1,o139,o1,.v none (.bld z81 [(0,1,(.c (.i .i64 1))),(1,1,x4),(3,1,x2),(4,1,x0)]) 0,o62,o162] [(p17,1)] (S [o38,o244,o1,.c none p59 [x2,x0],.v none (.fa 6 t17) 0,o26] [] (S [o38,.v none (.fa 6 t17) 0,o1,o95] [] (S [o38,.v none (.iar 3 1 t12 (.c (.i .i64 1))) 0,o1,.c none p61 [x2,x0],.v none (.fa 7 t17) 0,o26] [] (S [o38,.v none (.fa 7 t17) 0,o1,o95] [] (S [o38,o38,o244,o1,o72,o20,o1,.c none p63 [x5,x3,x0],.c none p62 [x7,x0]] [] (S [o38,o72,o14,o1,.v none (.iar 3 1 t12 (.c (.i .i64 2))) 0,o1,.c none p64 [x5,x2,x0],.v none (.fa 8 t17) 0,o26] [] (S [o38,o38,o113,o1,.c none p59 [x2,x0],.c none p65 [x4,x0],.v none (.fa 9 t17) 0,o26] [] (S [o38,o38,o113,o1,o72,o20,o1,.c none p63 [x5,x3,x0],.c none p62 [x7,x0]] [] (S [o38,o139,o1,o96,.v none (.iar 2 1 x0 x1) 0,o1,.c none p62 [x5,x0]] [] (S [o38,o38,o27,.c none p67 [x0],.c none p66 [x2,x0],.c none p65 [x4,x0],.v none (.fa 10 t17) 0,o26] [] (S [o163,.c none p68 [x0],o118] [] (.seq (.drw [0,1,2,3,4,5,6,7,8,9,10,11,12,13,14,15,16,17,18,19,20,21] [o163,o38,o6,o14,.v none (.ldn 4 x0) 2,o244,.v none (.ld x0) 3,.v none (.iar 3 1 t12 (.c (.i .i64 1))) 0,.v none (.ld x0) 4,o117,.v none (.ld x0) 5,.e none (.st 13 t13 x10),.e none (.st 7 t14 (.c (.a [(.i .i64 0),(.i .i64 0),(.i .i64 0),(.i .u64 0),(.i .i64 0),(.i .i64 0),(.s 0 0)]))),.v none (.fa 0 t14) 0,.e none (.st 4 x0 x9),.v none (.fa 4 t14) 0,o140,.v none (.fa 5 t14) 0,o140,.v none (.fa 6 t14) 0,o140,.e none (.st 1 t15 (.c (.i .i64 0)))] []) .ret))))))))))))))))),129983,6⟩
def k24:CF:=⟨[.t p5],(S [.e none (.box 81 t2),o22] [(p4,1),(p5,0)] (.seq (.drw [0,2,3,4,5,6,7,8,9,10,1,11,12,13,14,15,16] [.v none (.ldn 13 t4) 0,o2,o6,o205,o30,o2,o6,o14,o141,o30,.c none p30 [x9],.c none p69 [x0,x6,x1],o0,o7,o8,o4,o4] [(p6,1)]) (S [o2,o6,o205,o1,o73,o159,o205,o74] [] (S [o22] [(p8,0)] (.seq (S [o15,o23,o3] [(p33,2),(p34,1),(p35,0)] (.block 0 (.loop (S [.v none (.ar .lss .o t35 t34) 0] [(p36,0)] (.seq (.cond t36 .skip (.exit 0)) (.seq (.block 1 (S [.v none (.ia 4 t33 t35) 0,o55,o111,o134] [(p10,1)] (.ops [o11,.v none (.ldn 4 t10) 0,.c none p32 [x0],.e none (.bsl 9 1 1 [(.s 0 0)] [(0,1,x0)]),.e none (.ap 9 1 16 x3 x0),o0] [(p8,0)]))) (.ops [.v none (.ar .add .o t35 (.c (.i .i64 1))) 0,o0] [(p35,0)]))))))) (S [o11,o0] [(p5,0)] .ret)))))),64424510139,2⟩
def k26:CF:=⟨[.c p3 4 true,.t p4],(S [o111,o3] [(p3,1),(p4,0)] (S [.e none (.al 178 z178)] [(p5,0)] (S [o3] [(p6,0)] (.seq (S [o3] [(p12,0)] (.block 0 (.loop (S [.v none (.ar .lss .o t12 (.c (.i .i64 3))) 0] [(p13,0)] (.seq (.cond t13 .skip (.exit 0)) (.seq (.block 1 (S [o31,o0] [(p7,0)] (S [o2,o15,.c none p72 [x1,x0],o0,o7,o8,o33,o9,o9,o9] [(p8,2),(p9,1),(p10,0)] (.seq (S [o12,o18] [(p23,0)] (.cond t23 (S [.v none (.bld z96 []) 0,o12,.e none (.st 4 t3 x1),o4] [(p4,0)] .ret) .skip)) (.ops [o16,o11,o29,.v none (.iar 3 1 t5 x2) 0,o74,o9] [(p6,0)]))))) (.ops [o206,o0] [(p12,0)]))))))) (.seq (S [.v none (.iar 3 1 t5 (.c (.i .i64 0))) 0,o1,.v none (.iar 3 1 t5 (.c (.i .i64 1))) 0,o1,.v none (.iar 3 1 t5 (.c (.i .i64 2))) 0,o1,.v none (.mx3 x4 x2 x0) 0,.v none (.ar .gtr .o x0 (.c (.i .u64 4294967296))) 0] [(p38,0)] (.cond t38 (S [.v none (.bld z96 []) 0,o167,o82] [(p4,0)] .ret) .skip)) (.seq (.drw [0,1,2,3,4,5,6,7,8,9,10,11,12,13] [.v none (.iar 3 1 t5 (.c (.i .i64 0))) 0,o30,.v none (.iar 3 1 t5 (.c (.i .i64 1))) 0,o30,o43,.v none (.iar 3 1 t5 (.c (.i .i64 2))) 0,o30,o43,o2,o15,.v none (.sls x1 (some x0) none) 0,.v none (.bld z96 [(0,1,x9),(1,1,x6),(2,1,x3),(3,1,x0)]) 0,o111,o134] [(p11,1)]) (.seq (S [.v none (.ldn 4 t11) 0,.c none p73 [x0],o25] [(p54,0)] (.cond t54 (S [.v none (.bld z96 []) 0,o167,o82] [(p4,0)] .ret) .skip)) (S [.v none (.ldn 4 t11) 0,o167,o3] [(p4,0)] .ret)))))))),9007336697896957,1⟩
def k27:CF:=⟨[.c p3 13 true,.t p4],(S [o62,o3] [(p3,1),(p4,0)] (.seq (S [o2,o64,o245] [(p13,0)] (.cond t13 (S [o169,o170,o142] [(p4,0)] .ret) .skip)) (S [o2,.c none p72 [x0,(.c (.i .i64 0))],o0,o7,o8,o33,o9,o9,o9] [(p5,2),(p6,1),(p7,0)] (.seq (.block 0 (S [o16,o18,o0] [(p21,0)] (.cond t21 (S [o169,o16,.e none (.st 13 t3 x1),o4] [(p4,0)] .ret) (S [o27,.v none (.ar .lss .o x0 (.c (.i .u64 1))) 0,o0,.v (some (.l 0,false)) (.mv t5) 0,.v (some (.l 1,false)) (.ar .geq .o x0 (.c (.i .u64 5))) 0,o35,o0] [(p26,0)] (.cond t26 (S [o169,o170,o82] [(p4,0)] .ret) .skip))))) (S [o27,o43,.v none (.bld z81 [(0,1,x0)]) 0,o62,o162] [(p8,1)] (.seq (S [.c none p74 [t8],o23,o3] [(p37,2),(p38,1),(p39,0)] (.block 1 (.loop (S [.v none (.ar .lss .o t39 t38) 0] [(p40,0)] (.seq (.cond t40 .skip (.exit 1)) (.seq (.block 2 (S [.v none (.ia 5 t37 t39) 0,o171,o143,o172] [(p10,1)] (S [.v none (.ldn 5 t10) 0,o2,o15,.c none p75 [x2,x1,x0],o0,o7,o8,o4,o4] [(p6,1),(p7,0)] (S [o16,o18] [(p51,0)] (.cond t51 (S [o169,o16,.e none (.st 13 t3 x1),o4] [(p4,0)] .ret) .skip))))) (.ops [.v none (.ar .add .o t39 (.c (.i .i64 1))) 0,o0] [(p39,0)]))))))) (.seq (S [o15,o2,o64,o164,o0,.v (some (.l 0,false)) (.ldn 13 t8) 0,.c (some (.l 1,false)) p68 [x0],o246,o63] [(p63,0)] (.cond t63 (S [o169,o170,o82] [(p4,0)] .ret) .skip)) (S [.v none (.ldn 13 t8) 0,o170,o3] [(p4,0)] .ret)))))))),4612812949160989437,1⟩
def k28:CF:=⟨[.c p7 13 true],(S [o173,o62] [(p4,1),(p7,0)] (S [o5,o43,.v none (.ar .rem .o x0 (.c (.i .i64 7))) 0,o0] [(p8,0)] (.seq (S [o28,o1,o196] [(p14,0)] (.cond t14 (.ops [o5,o43,.v none (.ar .rem .o x0 (.c (.i .i64 4))) 0,o0] [(p8,0)]) .skip)) (.seq (S [o28,o1,o90,o0,o61,o235,o40] [(p24,0)] (.cond t24 (.ops [o79,.e none (.st 1 x0 (.c (.s 1 1)))] []) .skip)) (.seq (S [o28,o1,o90,o0,o61,o106,o40] [(p32,0)] (.cond t32 (.ops [o97,o1,.v none (.ar .sub .o (.c (.i .i64 1)) x0) 0,o97,o26] []) .skip)) (.seq (S [o28,o1,o90,o0,o61,o247,o40] [(p43,0)] (.cond t43 (.ops [o10,.v none (.fa 7 t4) 0,o26] []) .skip)) (.seq (S [o28,o1,o90,o0,o61,o248,o40] [(p52,0)] (.cond t52 (.ops [o10,.v none (.fa 10 t4) 0,o26] []) .skip)) (.seq (S [o28,o1,o196,o0,o61,o235,o40] [(p61,0)] (.cond t61 (.ops [o46,o1,o73,o46,o26] []) .skip)) (.seq (S [o28,o1,o144,o0,o61,o106,o40,o0,o207,.v (some (.l 1,false)) (.ar .eql .o x0 (.c (.i .i64 4))) 0,o35] [(p76,0)] (.cond t76 (.ops [o10,.v none (.fa 6 t4) 0,o26] []) .skip)) (.seq (S [o28,o1,o144,o0,o61,o247,o40,o0,o207,.v (some (.l 1,false)) (.ar .eql .o x0 (.c (.i .i64 5))) 0,o35] [(p89,0)] (.cond t89 (.ops [o10,.v none (.fa 8 t4) 0,o26] []) .skip)) (.seq (S [o28,o1,o144,o0,o61,o248,o40,o0,o207,.v (some (.l 1,false)) (.ar .eql .o x0 (.c (.i .i64 6))) 0,o35,o0,.v (some (.l 0,false)) (.fa 0 t4) 0,o57,.v (some (.l 2,false)) (.ar .eql .o x0 (.c (.i .i64 4))) 0,o249,o61,o106,.v (some (.l 6,false)) (.pick x2 x0 (.c (.b false))) 0,.v none (.pick x7 (.c (.b true)) x0) 0] [(p111,0)] (.cond t111 (.ops [o10,.v none (.fa 9 t4) 0,o26] []) .skip)) (.seq (S [o28,o1,.v none (.ar .eql .o x0 (.c (.i .i64 4))) 0,o0,o61,o247,o40] [(p120,0)] (.cond t120 (.ops [.v none (.fa 11 t4) 0,o1,o73,.v none (.fa 11 t4) 0,o26] []) .skip)) (.seq (S [o28,o1,.v none (.ar .eql .o x0 (.c (.i .i64 4))) 0,o0,o61,o248,o40] [(p131,0)] (.cond t131 (.ops [.v none (.fa 12 t4) 0,o1,o73,.v none (.fa 12 t4) 0,o26] []) .skip)) (S [.v none (.ldn 13 t4) 0,.e none (.st 13 t7 x0)] [] .ret)))))))))))))),1361795379756170468286765851611804737743,3⟩
def k29:CF:=⟨[.t p3],(S [o173,o21] [(p2,1),(p3,0)] (.seq (S [.v none (.ldn 13 t2) 0,.c none p68 [x0],o25] [(p9,0)] (.cond t9 (S [o21] [(p3,0)] .ret) .skip)) (S [o98,o1,o41,.c none p67 [x0],o0] [(p4,0)] (.seq (S [.c none p74 [t2],o23,o3] [(p14,2),(p15,1),(p16,0)] (.block 0 (.loop (S [o250] [(p17,0)] (.seq (.cond t17 .skip (.exit 0)) (.seq (.block 1 (S [.v none (.ia 5 t14 t16) 0,o171,o143,o172] [(p6,1)] (.seq (S [o145,o1,o99] [(p22,0)] (.cond t22 (S [o19,o145,o1,o6,o1,.c none p76 [x0],.v none (.ar .add .s x5 x0) 0,o0] [(p4,0)] (.exit 1)) .skip)) (.ops [o19,.v none (.ldn 5 t6) 0,.c none p77 [x0],.c none p67 [x0],o251,o0] [(p4,0)])))) (.ops [o208,o0] [(p16,0)]))))))) (S [o19,o0] [(p3,0)] .ret))))),2220335,1⟩
def k30:CF:=⟨[.c p11 6 true,.t p12],(S [.e none (.box 62 t5),o94,o3] [(p10,2),(p11,1),(p12,0)] (.seq (S [o2,o5,o158,o25] [(p21,0)] (.cond t21 (S [o48,o161,o109] [(p12,0)] .ret) .skip)) (S [o10,.c none p27 [x0],o0,o7,o8,o111,o76,o9] [(p13,2),(p14,0)] (.seq (S [o24,o18] [(p29,0)] (.cond t29 (S [o48,o24,o209,o4] [(p12,0)] .ret) .skip)) (.seq (.drw [0,1,2,3,4,5,6,7,8,9,10,11,12,13,14,15,16,17,18,19] [o2,o6,o70,o1,o5,o45,o1,o6,o20,o1,.v none (.ldn 4 t13) 0,o19,.c none p78 [x2,x1,x0],o0,o7,o8,o33,o9,o9,o9] [(p14,0),(p15,2),(p16,1)]) (.seq (S [o24,o18,o0,o238,.v (some (.l 1,false)) (.not x0) 0,o35] [(p54,0)] (.cond t54 (S [o48,o24,o209,o4] [(p12,0)] .ret) .skip)) (S [o32,.c none p28 [x0],o0,o7,o8,o62,o240,o9] [(p14,0),(p17,2)] (.seq (S [o24,o18] [(p63,0)] (.cond t63 (S [o48,o24,o209,o4] [(p12,0)] .ret) .skip)) (.seq (.drw [1,2,4,5,6,7,8,9,0,3,10,11,12,13,14] [.v none (.fa 0 t17) 0,o30,o2,.v none (.ldn 13 t17) 1,o5,o19,.v none (.ldn 2 t10) 1,.v none (.bld z198 [(0,13,x3),(13,1,x2),(14,1,x1),(15,2,x0)]) 0,.c none p79 [],.v none (.lk .i64 .fn x0 x7 false) 0,.cv none x0 [x7,x2],o7,o8,o209,o4] [(p12,0)]) .ret))))))))),4620693217951743519,5⟩
def k31:CF:=⟨[.t p3],(S [.e none (.box 96 t1),o21] [(p2,1),(p3,0)] (.seq (S [.v none (.ldn 4 t2) 0,.c none p73 [x0],o25] [(p6,0)] (.cond t6 (S [o21] [(p3,0)] .ret) .skip)) (.seq (.drw [0,1,3,4,5,8,9,10,13,14,2,6,7,11,12,15,16] [o98,o1,.v none (.fa 1 t2) 0,o30,o41,o210,o93,o41,o211,.v none (.ld x0) 3,.c none p67 [x8],.c none p67 [x6],o146,.c none p67 [x5],o146,.v none (.ar .add .s x0 x5) 0,o0] [(p3,0)]) .ret))),39,1⟩
def k32:CF:=⟨[.t p5,.c p6 3 true,.t p7],(S [o34,o89,o3] [(p5,2),(p6,1),(p7,0)] (.seq (S [o2,o5,o158,o25] [(p14,0)] (.cond t14 (S [o212,o34,o252,o109] [(p5,2),(p7,0)] .ret) .skip)) (S [o2,o6,o70,o1,o5,o45,o1,o6,o14,o81,o77,o89,o88] [(p8,1)] (.seq (.drw [0,1,2,3,4,5,6,7,8,9,10,11] [o2,o6,o78,o1,o113,o1,.v none (.lk .u64 .pn x2 x0 true) 0,o0,o7,o8,o4,o4] [(p9,1),(p10,0)]) (.seq (S [o12,o25] [(p38,0)] (.cond t38 (S [o212,o34,o252,o253] [(p5,2),(p7,0)] .ret) .skip)) (.seq (.drw [0,1,2,3,4] [o29,o213,o4,o252,o3] [(p5,2),(p7,0)]) .ret)))))),137438962675,2⟩
def k33:CF:=⟨[.t p5,.t p6,.t p7,.t p8],(S [o3,o3,o3,o3] [(p5,3),(p6,2),(p7,1),(p8,0)] (.seq (S [o5,o64,.v none (.ar .gtr .o x0 (.c (.i .i64 1000))) 0] [(p16,0)] (.cond t16 (S [o3,o3,o3,o39] [(p5,3),(p6,2),(p7,1),(p8,0)] .ret) .skip)) (S [o2,o6,o20,o77,.e none (.al 203 z203),o88,o3] [(p9,2),(p10,0)] (.seq (S [o96,o1,.v none (.ar .geq .o x0 (.c (.i .i64 256))) 0] [(p23,0)] (.cond t23 (.drw [0,1,2,3,4,5,6,7,8,9,10] [.v none (.ldn 3 t9) 0,o2,o6,o86,o1,.c none p80 [x4,x0],o0,o7,o8,.e none (.st 3 t9 x1),o4] [(p10,0)]) .skip)) (.seq (S [o12,o18] [(p34,0)] (.cond t34 (S [o12,o3,o3,o3,o42] [(p5,3),(p6,2),(p7,1),(p8,0)] .ret) .skip)) (.seq (.drw [0,1,2,3,4,5,6,7,8,9,10,11] [o72,o47,o2,o6,o86,o1,.c none p81 [x4,x0],o0,o7,o8,o4,o4] [(p10,0),(p11,1)]) (.seq (S [o12,o18] [(p47,0)] (.cond t47 (S [o12,o3,o3,o3,o42] [(p5,3),(p6,2),(p7,1),(p8,0)] .ret) .skip)) (.seq (.drw [0,1,2,3,4,5,6,7,8,9,10,11,12,13,14,15,16,17,18,19] [o2,o6,o86,o1,o17,o96,o1,o41,o2,o6,o147,o20,o1,o5,.c none p82 [x10,x9,x6,x1,x0],o0,o7,o8,o4,o4] [(p10,0),(p12,1)]) (.seq (S [o12,o18] [(p68,0)] (.cond t68 (S [o12,o3,o3,o3,o42] [(p5,3),(p6,2),(p7,1),(p8,0)] .ret) .skip)) (S [o96,o1,o0] [(p13,0)] (S [o96,o1,o44,o96,o26] [] (S [o2,.v none (.ldn 3 t9) 0,o68,o20,o214] [] (S [o72,o14,o1,o37,o31,o9,o9,o9,o3] [(p5,3),(p6,2),(p7,1),(p8,0)] .ret))))))))))))),147574022967014760435,2⟩
def k34:CF:=⟨[.t p3],(S [o148,o22] [(p2,1),(p3,0)] (S [o22] [(p4,0)] (.seq (S [.v none (.ldn 9 t2) 0,.c none p83 [x0],o3] [(p8,1),(p9,0)] (.block 0 (.loop (S [.v none (.ar .lss .o t9 (.c (.i .i64 3))) 0] [(p10,0)] (.seq (.cond t10 .skip (.exit 0)) (.seq (.block 1 (S [.v none (.ixa 3 3 true t8 t9) 0,o89,o88] [(p6,1)] (S [o160,.c none p84 [x0]] [(p13,0)] (.cond t13 (.ops [o19,o160,.e none (.bsl 112 3 1 [(.i .u64 0),(.i .u64 0),(.i .u64 0)] [(0,3,x0)]),.e none (.ap 112 3 24 x2 x0),o0] [(p4,0)]) .skip)))) (.ops [o254,o0] [(p9,0)]))))))) (S [o19,o0] [(p3,0)] .ret)))),5039,1⟩
def k35:CF:=⟨[.c p3 4 true],(S [.e none (.al 126 z126)] [(p3,0)] (S [o2,o6,o147,o55,o167] [] .ret)),5,1⟩
def k36:CF:=⟨[.t p3,.t p4],(S [o21,o3] [(p3,1),(p4,0)] (S [o2,.c none p85 [x0],o0,o7,o8,.e none (.al 220 z220),o214,o9] [(p5,2),(p6,0)] (.seq (S [o15,o18] [(p16,0)] (.cond t16 (S [o15,o21,o4] [(p3,1),(p4,0)] .ret) .skip)) (S [o149,o1,.v none (.fa 1 t5) 0,o1,.c none p38 [x2,x0],o0,o7,o8,o4,o4] [(p6,0),(p7,1)] (.seq (S [o15,o18] [(p27,0)] (.cond t27 (S [o15,o21,o4] [(p3,1),(p4,0)] .ret) .skip)) (S [o16,o174,o1,.c none p86 [x2,x0],o0] [(p8,0)] (S [o16,.c none p20 [x0],.e none (.al 56 z56),o134] [(p9,1)] (.seq (.drw [0,1,2,5,6,9,10,13,14,3,4,7,8,11,12,15,16,17,18,19] [o11,o72,o1,.v none (.fa 1 t9) 0,o30,o96,o93,.v none (.fa 3 t9) 0,.v none (.ld x0) 3,.c none p87 [x6],.v none (.ar .add .s x9 x0) 0,.c none p87 [x6],o146,.c none p87 [x6],o146,.c none p87 [x6],o146,.v none (.ar .add .s x0 (.c (.s 1 10))) 0,o0,o3] [(p3,1),(p4,0)]) .ret)))))))),67142141,1⟩
def k37:CF:=⟨[.t p5,.t p6],(S [o34,o3] [(p5,1),(p6,0)] (S [o2,o23,o0] [(p7,0)] (S [.c none p50 [(.c (.i .i64 65536))],o0,o7,o8,o4,o4] [(p8,1),(p9,0)] (.seq (S [o16,.v none (.ar .lss .o x0 (.c (.i .i64 2))) 0,o0,o168,.v (some (.l 1,false)) (.ar .gtr .o x0 (.c (.i .i64 8))) 0,o35,o0,.v (some (.l 0,false)) (.mv t9) 0,o108,o35] [(p41,0)] (.cond t41 (S [o34,o39] [(p5,1),(p6,0)] .ret) .skip)) (S [o11,o150,.v none (.bld z142 [(0,1,x1),(6,1,x0)]) 0,.e none (.box 142 x0),o0] [(p10,0)] (S [o22,o22] [(p11,1),(p12,0)] (.seq (S [o16,o3] [(p46,1),(p47,0)] (.block 0 (.loop (S [.v none (.ar .lss .o t47 t46) 0] [(p48,0)] (.seq (.cond t48 .skip (.exit 0)) (.seq (.block 1 (.ops [o17,o12,o175,o12,o175,.v none (.bld z60 [(0,1,x2),(1,1,x0)]) 0,.e none (.bsl 60 2 1 [(.i .i64 0),(.i .i64 0)] [(0,2,x0)]),.e none (.ap 60 2 16 x6 x0),o0] [(p11,0)])) (.ops [.v none (.ar .add .o t47 (.c (.i .i64 1))) 0,o0] [(p47,0)]))))))) (S [.e none (.mkm .u16),o0] [(p13,0)] (.seq (S [o16,o3] [(p59,1),(p60,0)] (.block 2 (.loop (S [.v none (.ar .lss .o t60 t59) 0] [(p61,0)] (.seq (.cond t61 .skip (.exit 2)) (.seq (.block 3 (S [.v none (.mv t60) 0,o0] [(p14,0)] (S [o24,o44,o0] [(p15,0)] (.block 4 (.loop (.seq (S [o32,o16,o176] [(p67,0)] (.cond t67 .skip (.exit 4))) (.seq (.block 5 (.ops [o37,o24,o32,.v none (.bld z62 [(0,1,x1),(1,1,x0)]) 0,o12,o175,o12,o175,o112,.e none (.mu .u16 x8 x5 x0)] [])) (.ops [o32,o44,o0] [(p15,0)])))))))) (.ops [.v none (.ar .add .o t60 (.c (.i .i64 1))) 0,o0] [(p60,0)]))))))) (.seq (S [o17,o23,o3] [(p80,2),(p81,1),(p82,0)] (.block 6 (.loop (S [.v none (.ar .lss .o t82 t81) 0] [(p83,0)] (.seq (.cond t83 .skip (.exit 6)) (.seq (.block 7 (S [.v none (.ia 2 t80 t82) 0,o47,o115,o177] [(p17,1)] (S [o11,.v none (.ldn 2 t17) 0,.c none p51 [x1,x0],o0,o7,o8,o115,o135,o9] [(p18,2)] (S [o31,.v none (.ldn 2 t18) 0,.e none (.bsl 60 2 1 [(.i .i64 0),(.i .i64 0)] [(0,2,x0)]),.e none (.ap 60 2 16 x2 x0),o0] [(p12,0)] (.drw [0,1,2,3,4,5,6,7,8,9,10,11,12,13,14,15,16,17] [o12,o6,o67,o1,.v none (.fa 0 t18) 0,o1,o12,o6,o67,o1,.v none (.fa 1 t18) 0,o93,.e none (.men .i64 (.b false) x8 x6),o178,.e none (.mst x10 x0 (.c (.b true))),.e none (.men .i64 (.b false) x5 x3),o178,.e none (.mst x7 x0 (.c (.b true)))] []))))) (.ops [.v none (.ar .add .o t82 (.c (.i .i64 1))) 0,o0] [(p82,0)]))))))) (.seq (S [o2,o23,o3] [(p113,2),(p114,1),(p115,0)] (.block 8 (.loop (S [.v none (.ar .lss .o t115 t114) 0] [(p116,0)] (.seq (.cond t116 .skip (.exit 8)) (.seq (.block 9 (S [.v none (.mv t115) 0,.v none (.ia 1 t113 t115) 0,o1,o9,o4] [(p20,1),(p21,0)] (S [o17,o151,.v none (.ia 2 x1 x0) 0,o47,.v none (.mv t21) 0,o5,.v none (.bld z72 [(0,2,x2),(3,1,x1),(4,1,x0)]) 0,.e none (.al 72 z72),o172] [(p22,1)] (.seq (S [o16,o3] [(p127,1),(p128,0)] (.block 10 (.loop (S [.v none (.ar .lss .o t128 t127) 0] [(p129,0)] (.seq (.cond t129 .skip (.exit 10)) (.seq (.block 11 (S [.v none (.mv t128) 0,o0] [(p23,0)] (S [o215,o151,.v none (.ar .neq .o x1 x0) 0] [(p133,0)] (.cond t133 (.drw [0,1,2,3,4,5,6,7,8,9,10,11,12,13,14,15,16,17,18,19] [.v none (.fa 2 t22) 0,o30,o31,o215,.v none (.ia 2 x1 x0) 0,o47,o37,o151,o215,.v none (.mn2 x1 x0) 0,o151,o215,.v none (.mx x1 x0) 0,.v none (.bld z62 [(0,1,x3),(1,1,x0)]) 0,.v none (.lk .u16 (.a [(.i .i64 0),(.i .i64 0)]) x7 x0 false) 0,.v none (.bld z64 [(0,2,x9),(2,2,x0)]) 0,o237,.e none (.ap 64 4 32 x15 x0),.v none (.fa 2 t22) 0,o26] []) .skip)))) (.ops [.v none (.ar .add .o t128 (.c (.i .i64 1))) 0,o0] [(p128,0)]))))))) (S [o11,.v none (.ldn 5 t22) 0,.c none p22 [x1,x0],o0,o7,o8,o4,o4] [(p24,1),(p25,0)] (.seq (S [.v none (.mv t25) 0,o18] [(p161,0)] (.cond t161 (S [o34,o39] [(p5,1),(p6,0)] .ret) .skip)) (.ops [o12,o12,o6,o14,o1,.v none (.mv t24) 0,.e none (.bsl 23 1 1 [.pn] [(0,1,x0)]),.e none (.ap 23 1 8 x2 x0),.v none (.nc x7) 0,o14,o74] []))))))) (.ops [.v none (.ar .add .o t115 (.c (.i .i64 1))) 0,o0] [(p115,0)]))))))) (S [o12,o0,o3] [(p5,1),(p6,0)] .ret)))))))))))),1461501643370992815503229648625062205051616591859,2⟩
def k39:CF:=⟨[.c p5 6 true,.t p6,.t p7],(S [.e none (.box 47 t2),o94,o3,o3] [(p4,3),(p5,2),(p6,1),(p7,0)] (.seq (S [o2,o216,.c none p89 [x1,x0],o25] [(p12,0)] (.cond t12 (S [o48,o91,o3,o39] [(p6,1),(p7,0)] .ret) .skip)) (S [o2,.v none (.mkf p90 [x0] []) 0,o2,.v none (.mkf p91 [x0] []) 0,o2,.v none (.mkf p92 [x0] []) 0,o2,.v none (.mkf p93 [x0] []) 0,o2,.v none (.mkf p94 [x0] []) 0,o2,.v none (.mkf p95 [x0] []) 0,o2,.v none (.mkf p96 [x0] []) 0,o2,.v none (.mkf p97 [x0] []) 0,o2,.v none (.mkf p98 [x0] []) 0,o2,.v none (.mkf p99 [x0] []) 0,.v none (.bld z228 [(0,1,x18),(1,1,x16),(2,1,x14),(3,1,x12),(4,1,x10),(5,1,x8),(6,1,x6),(7,1,x4),(8,1,x2),(9,1,x0)]) 0,.e none (.al 228 z228),.e none (.st 10 x0 x1)] [(p8,1)] (.seq (.drw [0,1,2,3,4,5,6,7,8,9,10,11] [o28,o1,.v none (.iar 10 1 t8 x0) 0,o1,o216,.cv none x1 [x0],o7,o8,o33,.e none (.st 6 t5 x2),o9,o9] [(p6,1),(p7,0)]) .ret)))),2299,2⟩
def k40:CF:=⟨[.t p7],(S [o13] [(p7,0)] (S [o2,o5,.c none p100 [x1,x0],o0,o52,.v (some (.l 1,true)) (.mv t3) 0,.c (some (.l 2,true)) p100 [x1,x0],o60,o0,o166,.v (some (.l 1,true)) (.mv t3) 0,.v (some (.l 2,true)) (.ar .neq .o x1 x0) 0,o60,o0] [(p7,0)] .ret)),71,3⟩
def k41:CF:=⟨[.t p5,.t p6,.t p7],(S [o3,o3,o3] [(p5,2),(p6,1),(p7,0)] (.seq (S [o2,o5,o158,o25] [(p16,0)] (.cond t16 (S [o3,o3,o3] [(p5,2),(p6,1),(p7,0)] .ret) .skip)) (S [o3] [(p8,0)] (.seq (S [o2,o6,o87,o1,o110] [(p21,0)] (.block 0 (.loop (S [.e none (.nxt t21),o7] [(p23,0)] (.seq (.cond t23 .skip (.exit 0)) (.block 1 (S [.e none (.ent t21),o178,.e none (.al 89 z89),.e none (.st 9 x0 x1)] [(p10,1)] (S [.v none (.fa 0 t10) 0,o1,o5,o194] [(p29,0)] (.cond t29 (.ops [o11,o44,o0] [(p8,0)]) .skip))))))))) (S [o2,o6,o70,o1,o5,o45,o1,o6,o20,o1,.c none p101 [x0],o0,o7,o8,o4,o4] [(p11,1),(p12,0)] (S [o11,o17,o31,o9,o9,o9] [(p5,2),(p6,1),(p7,0)] .ret)))))),273714931,2⟩
def k42:CF:=⟨[.t p5],(S [o3] [(p5,0)] (.seq (S [o5,o2,.v none (.ar .gtr .o x1 x0) 0] [(p8,0)] (.cond t8 (S [o5,o69,o0] [(p5,0)] .ret) .skip)) (S [o5,o0] [(p5,0)] .ret))),147,2⟩
def k43:CF:=⟨[.t p3],(S [o22] [(p3,0)] (.seq (S [o2,o255] [(p5,0)] (.cond t5 (S [o22] [(p3,0)] .ret) .skip)) (S [.e none (.bsl 147 6 0 [] []),o2,.e none (.ap 147 6 56 x1 x0),o0] [(p3,0)] .ret))),21,1⟩
def k44:CF:=⟨[.t p5],(S [o22] [(p5,0)] (.seq (S [o2,o5,.c none p100 [x1,x0],o25] [(p9,0)] (.cond t9 (S [o22] [(p5,0)] .ret) .skip)) (S [o2,o6,o14,o1,o5,o45,o1,.c none p102 [x0],o0] [(p5,0)] .ret))),275,2⟩
def k45:CF:=⟨[.t p5],(S [o13] [(p5,0)] (S [o22] [(p6,0)] (.seq (S [o5,o3] [(p14,1),(p15,0)] (.block 0 (.loop (S [.v none (.ar .lss .o t15 t14) 0] [(p16,0)] (.seq (.cond t16 .skip (.exit 0)) (.seq (.block 1 (S [o32,o0] [(p7,0)] (.ops [o15,o2,o16,.c none p45 [x1,x0],.e none (.ap 3 1 8 x3 x0),o0] [(p6,0)]))) (.ops [.v none (.ar .add .o t15 (.c (.i .i64 1))) 0,o0] [(p15,0)]))))))) (.seq (S [o2,.c none p19 [x0],o23,o3] [(p25,2),(p26,1),(p27,0)] (.block 2 (.loop (S [.v none (.ar .lss .o t27 t26) 0] [(p28,0)] (.seq (.cond t28 .skip (.exit 2)) (.seq (.block 3 (S [.v none (.ia 6 t25 t27) 0,o152,o179,o153] [(p9,1)] (S [o72,o1,o90] [(p33,0)] (.cond t33 (.ops [o15,o2,.v none (.fa 5 t9) 0,o1,.c none p103 [x2,x0],o198,.e none (.ap 3 1 8 x5 x0),o0] [(p6,0)]) .skip)))) (.ops [.v none (.ar .add .o t27 (.c (.i .i64 1))) 0,o0] [(p27,0)]))))))) (.seq (S [o15,o23,o3] [(p42,2),(p43,1),(p44,0)] (.block 4 (.loop (S [.v none (.ar .lss .o t44 t43) 0] [(p45,0)] (.seq (.cond t45 .skip (.exit 4)) (.seq (.block 5 (S [.v none (.ia 1 t42 t44) 0,o1,o0] [(p11,0)] (S [o2,o17,.c none p104 [x1,x0],o0,o7,o8,o4,o4] [(p12,1)] (S [o31] [(p54,0)] (.cond t54 (S [o13] [(p5,0)] .ret) .skip))))) (.ops [.v none (.ar .add .o t44 (.c (.i .i64 1))) 0,o0] [(p44,0)]))))))) (S [o49] [(p5,0)] .ret)))))),9040189150260595,2⟩
def k46:CF:=⟨[.t p3],(S [o13] [(p3,0)] (S [o150,o0] [(p4,0)] (.seq (S [o2,o23,o3] [(p12,2),(p13,1),(p14,0)] (.block 0 (.loop (S [o256] [(p15,0)] (.seq (.cond t15 .skip (.exit 0)) (.seq (.block 1 (S [.v none (.ia 6 t12 t14) 0,o152,o179,o153] [(p6,1)] (S [o19,o154,o1,.v none (.lk .i64 .sn x2 x0 false) 0,o0] [(p7,0)] (.seq (S [o100,o1,o54] [(p24,0)] (.cond t24 (.seq (.seq (.drw [0,1,2,3,4,5,6,7,8,9,10,11,12,13,14,15,16,17,18,19,20,21,22,23,24,25] [o16,o23,.v none (.ar .gtr .o x0 (.c (.i .i64 1))) 0,o0,o168,.v (some (.l 1,false)) (.ln .l x0) 0,o243,o249,.v (some (.l 0,true)) (.mv t7) 0,.v (some (.l 1,true)) (.ia 6 x0 (.c (.i .i64 0))) 0,o119,o51,.v (some (.l 4,true)) (.fa 2 t6) 0,o180,.v (some (.l 6,true)) (.ar .neq .o x2 x0) 0,.v (some (.l 7,true)) (.mv x0) 0,o168,.v (some (.l 1,false)) (.ia 6 x0 (.c (.i .i64 0))) 0,.v (some (.l 2,false)) (.fa 2 x0) 0,o120,.v (some (.l 4,false)) (.fa 1 t6) 0,o181,.v (some (.l 6,false)) (.ar .neq .o x2 x0) 0,.v (some (.l 15,true)) (.pick x7 (.c (.b true)) x0) 0,.v (some (.l 20,false)) (.pick x16 x0 (.c (.b false))) 0,.v none (.pick x21 (.c (.b true)) x0) 0] [(p50,0)]) (.cond t50 (S [o13] [(p3,0)] .ret) .skip)) (.drw [0,1,2,3,4,5,6,7] [o19,o154,o93,o16,.v none (.ldn 6 t6) 0,.e none (.bsl 147 6 1 [(.i .i64 0),(.i .i64 0),(.i .i64 0),(.i .i64 0),(.s 0 0),(.i .i64 0)] [(0,6,x0)]),.e none (.ap 147 6 56 x2 x0),.e none (.mu .i64 x6 x4 x0)] [])) .skip)) (S [o100,o1,o144] [(p60,0)] (.cond t60 (S [o13] [(p8,0)] (.seq (S [o16,o23,o3] [(p61,2),(p62,1),(p63,0)] (.block 2 (.loop (S [.v none (.ar .lss .o t63 t62) 0] [(p64,0)] (.seq (.cond t64 .skip (.exit 2)) (.seq (.block 3 (S [.v none (.ia 6 t61 t63) 0,o152,o179,o153] [(p10,1)] (.ops [o11,o0,.v (some (.l 0,false)) (.fa 1 t10) 0,o57,.v (some (.l 2,false)) (.fa 2 t6) 0,o120,.v (some (.l 4,false)) (.ar .eql .o x2 x0) 0,.v (some (.l 5,false)) (.mv x0) 0,.v (some (.l 0,true)) (.fa 2 t10) 0,o50,.v (some (.l 2,true)) (.fa 1 t6) 0,o51,o236,.v (some (.l 11,false)) (.pick x5 x0 (.c (.b false))) 0,.v none (.pick x12 (.c (.b true)) x0) 0,o0] [(p8,0)]))) (.ops [.v none (.ar .add .o t63 (.c (.i .i64 1))) 0,o0] [(p63,0)]))))))) (S [o11,o25] [(p84,0)] (.cond t84 (S [o13] [(p3,0)] .ret) .skip)))) .skip)))))) (.ops [o257,o0] [(p14,0)]))))))) (S [o49] [(p3,0)] .ret)))),9671424427763304765618925,1⟩
def k47:CF:=⟨[.t p3],(S [o13] [(p3,0)] (S [o150,o0] [(p4,0)] (.seq (S [o2,o23,o3] [(p9,2),(p10,1),(p11,0)] (.block 0 (.loop (S [.v none (.ar .lss .o t11 t10) 0] [(p12,0)] (.seq (.cond t12 .skip (.exit 0)) (.seq (.block 1 (S [.v none (.ia 6 t9 t11) 0,o152,o179,o153] [(p6,1)] (S [o100,o1] [(p16,0)] (.block 2 (S [.v none (.ar .eql .o t16 (.c (.i .i64 1))) 0,o0] [(p17,0)] (.cond t17 (.drw [0,1,2,3,4,5,6,7,8,9,10,11,12,13,14] [o19,o182,o1,o217,o1,o154,o1,o145,o1,.v none (.bld z147 [(1,1,x6),(2,1,x4),(3,1,x2),(4,1,x0)]) 0,o53,o44,o53,o178,.e none (.mst x13 x0 x2)] []) (S [.v none (.ar .eql .o t16 (.c (.i .i64 2))) 0,o0] [(p33,0)] (.cond t33 (S [o217,o1,o182,o1,o154,o1,o145,o1,.v none (.bld z147 [(1,1,x6),(2,1,x4),(3,1,x2),(4,1,x0)]) 0,o179,o153] [(p7,1)] (.seq (S [o19,.v none (.ldn 6 t7) 0,o53,o54] [(p47,0)] (.cond t47 (S [o13] [(p3,0)] .ret) .skip)) (.drw [0,1,2,3,4,5,6] [o19,.v none (.ldn 6 t7) 0,o53,o69,o53,o178,.e none (.mst x5 x0 x2)] []))) .skip)))))))) (.ops [.v none (.ar .add .o t11 (.c (.i .i64 1))) 0,o0] [(p11,0)]))))))) (S [o49] [(p3,0)] .ret)))),70373039247213,1⟩
def k48:CF:=⟨[.t p5],(S [o13] [(p5,0)] (.seq (S [o5,o3] [(p11,1),(p12,0)] (.block 0 (.loop (S [.v none (.ar .lss .o t12 t11) 0] [(p13,0)] (.seq (.cond t13 .skip (.exit 0)) (.seq (.block 1 (S [o31,o0] [(p6,0)] (S [o5,o3] [(p15,1),(p16,0)] (.block 2 (.loop (S [o250] [(p17,0)] (.seq (.cond t17 .skip (.exit 2)) (.seq (.block 3 (S [o38,o0] [(p7,0)] (S [o2,o15,o16,.c none p17 [x2,x1,x0],o0,o7,o8,o33,o9,o9,o9] [(p8,2),(p9,1),(p10,0)] (S [o11,.v none (.ar .gtr .o x0 (.c (.i .i64 1))) 0,o0,.v (some (.l 0,false)) (.mv t9) 0,.v (some (.l 1,false)) (.ar .gtr .o x0 (.c (.i .i64 4))) 0,o35,o0,.v (some (.l 0,false)) (.mv t10) 0,.v (some (.l 1,false)) (.ar .gtr .o x0 (.c (.i .i64 4096))) 0,o35,o0,o58,.v (some (.l 1,false)) (.mv t6) 0,.v (some (.l 2,false)) (.mv t7) 0,.c (some (.l 3,false)) p18 [x2,x1,x0],.v (some (.l 4,false)) (.ln .l x0) 0,.v (some (.l 5,false)) (.ar .gtr .o x0 (.c (.i .i64 3))) 0,.v none (.pick x6 (.c (.b true)) x0) 0] [(p44,0)] (.cond t44 (S [o13] [(p5,0)] .ret) .skip))))) (.ops [o208,o0] [(p16,0)]))))))))) (.ops [o206,o0] [(p12,0)]))))))) (S [o49] [(p5,0)] .ret))),8796093145075,2⟩
def k49:CF:=⟨[.t p3,.t p4],(S [o34,o3] [(p3,1),(p4,0)] (.seq (S [o2,o83,o0,o58,.v (some (.l 1,false)) (.ar .gtr .o x0 (.c (.i .i64 1048576))) 0,o35] [(p10,0)] (.cond t10 (S [o34,o39] [(p3,1),(p4,0)] .ret) .skip)) (S [.v none (.bld z94 []) 0,.e none (.bsl 94 6 1 [(.i .i64 0),(.s 0 0),(.i .u64 0),(.i .i64 0),(.i .i64 0),(.i .i64 0)] [(0,6,x0)]),.e none (.bsl 3 1 1 [(.i .i64 0)] [(0,1,(.c (.i .i64 0)))]),o150,o2,.v none (.bld z109 [(0,1,x3),(1,1,x2),(2,1,x1),(3,1,x0)]) 0,.e none (.box 109 x0),o0,o3] [(p3,1),(p4,0)] .ret))),525,1⟩
def k50:CF:=⟨[.c p5 2 true,.c p6 1 false],(S [o204,o115,o116] [(p4,2),(p5,1),(p6,0)] (S [.df t6] [] (S [o2,.v none (.bld z171 [(0,1,x0)]) 0,o218,o0] [(p7,0)] (.seq (.drw [0,1,2,4,5,6,3,7,8,9,10] [o16,o28,o1,o16,o65,o30,.c none p59 [x5,x3],.c none p61 [x3,x1],.v none (.bld z60 [(0,1,x1),(1,1,x0)]) 0,o121,.e none (.st 1 t6 (.c (.i .i64 0)))] []) .ret)))),123,2⟩
def k51:CF:=⟨[.t p3,.t p4],(S [o34,o3] [(p3,1),(p4,0)] (.seq (S [o2,o83,o0,o58,.v (some (.l 1,false)) (.ar .gtr .o x0 (.c (.i .i64 8))) 0,o35] [(p10,0)] (.cond t10 (S [o34,o39] [(p3,1),(p4,0)] .ret) .skip)) (S [o2,.v none (.bld z238 [(8,1,x0)]) 0,.e none (.box 238 x0),o0,o3] [(p3,1),(p4,0)] .ret))),525,1⟩
def k52:CF:=⟨[.t p3],(S [o13] [(p3,0)] (S [.v none (.mv (.c (.i .i64 256))) 0] [(p4,0)] (.seq (S [o2,o64,o3] [(p8,1),(p9,0)] (.block 0 (.loop (S [.v none (.ar .lss .o t9 t8) 0] [(p10,0)] (.seq (.cond t10 .skip (.exit 0)) (.seq (.block 1 (S [o29,o0] [(p5,0)] (S [o2,o27,o258,o43,o0] [(p6,0)] (.seq (S [o15,o183,o0,.v (some (.l 0,false)) (.mv t6) 0,o259,.v (some (.l 2,false)) (.ar .geq .o x1 x0) 0,o63] [(p22,0)] (.cond t22 (S [o13] [(p3,0)] .ret) .skip)) (.ops [o15,o0] [(p4,0)]))))) (.ops [o254,o0] [(p9,0)]))))))) (S [o2,o64,.v none (.ar .geq .o x0 (.c (.i .i64 1))) 0,o0,o52,.v (some (.l 1,true)) (.ln .s x0) 0,.v (some (.l 2,true)) (.ar .leq .o x0 (.c (.i .i64 8))) 0,o60,o0] [(p3,0)] .ret)))),2098109,1⟩
def k53:CF:=⟨[.t p3],(S [o22] [(p3,0)] (.seq (S [o2,o255] [(p5,0)] (.cond t5 (S [o22] [(p3,0)] .ret) .skip)) (S [.e none (.bsl 64 4 0 [] []),o2,.e none (.ap 64 4 32 x1 x0),o0] [(p3,0)] .ret))),21,1⟩
def k54:CF:=⟨[.t p5,.t p6],(S [o34,o3] [(p5,1),(p6,0)] (.seq (S [o2,o183,o0,o58,.v (some (.l 1,false)) (.ar .gtr .o x0 (.c (.i .i64 16))) 0,o35,o0,o84,.v (some (.l 1,false)) (.ar .lss .o x0 (.c (.i .i64 1))) 0,o35,o0,o84,.v (some (.l 1,false)) (.ar .gtr .o x0 (.c (.i .i64 65536))) 0,o35] [(p20,0)] (.cond t20 (S [o34,o39] [(p5,1),(p6,0)] .ret) .skip)) (S [.e none (.mkm .u64),o2,o5,.v none (.bld z241 [(0,1,x2),(1,1,x1),(2,1,x0),(3,1,(.c (.i .i64 0)))]) 0,.e none (.box 241 x0),o0,o3] [(p5,1),(p6,0)] .ret))),524339,2⟩
def k56:CF:=⟨[],(S [o2,o25] [(p6,0)] (.cond t6 (.ops [o5,o59] []) .skip)),35,2⟩
def k57:CF:=⟨[.t p9],(S [.e none (.box 60 t4),o34] [(p8,1),(p9,0)] (S [o2,.c none p106 [x0,(.c (.s 5 495791204200))],o0,o7,o8,o101,o76,o9] [(p10,2),(p11,0)] (S [o17,o59] [] (S [o2,.v none (.ldn 4 t10) 0,.v none (.bld z171 [(0,1,x1),(1,4,x0)]) 0,o218,o0] [(p12,0)] (S [o31,o31,o5,.c none p66 [x1,x0],.c none p60 [x3,x0]] [] (S [o31,o31,o10,.v none (.ar .add .o (.c (.i .i64 48)) x0) 0,o219,o220,o122,.c none p66 [x5,x0],.c none p60 [x7,x0]] [] (.seq (S [o113,o1,.v none (.fa 1 t8) 0,o1,o112,o3] [(p45,1),(p46,0)] (.block 0 (.loop (S [.v none (.ar .lss .o t46 (.c (.i .i64 2))) 0] [(p47,0)] (.seq (.cond t47 .skip (.exit 0)) (.seq (.block 1 (S [.v none (.ixa 2 1 false t45 t46) 0,o0] [(p14,0)] (S [o31,.v none (.mkf p60 [x0] []) 0,o0] [(p15,0)] (.ops [o32,o24,.cv none x1 [x0]] [])))) (.ops [.v none (.ar .add .o t46 (.c (.i .i64 1))) 0,o0] [(p46,0)]))))))) (S [o31,o0] [(p9,0)] .ret)))))))),123145302339471,4⟩
def k58:CF:=⟨[.t p5],(S [o3] [(p5,0)] (S [o2,o6,o20,o1,o5,.c none p107 [x1,x0],o0,o7,o8,o4,o4] [(p6,1),(p7,0)] (S [o16,o59] [] (S [o15,o0] [(p5,0)] .ret)))),115,2⟩
def k59:CF:=⟨[],(.seq (.drw [0,1,2,3,4,5,6,7,8,9,10,11,12,13,14,15] [o2,o6,o14,o55,o2,o6,o20,o1,o5,.c none p108 [x5,x1,x0],o0,o7,o8,.fl 83 z83,o76,o9] [(p5,2),(p6,0)]) (S [o15,o59] [] (.ops [o2,o114,o68,o14,o76] []))),51,2⟩
def k60:CF:=⟨[.t p5],(S [o3] [(p5,0)] (S [o2,o6,o20,o1,o5,.c none p109 [x1,x0],o0,o7,o8,o4,o4] [(p6,1),(p7,0)] (S [o16,o59] [] (S [o15,o0] [(p5,0)] .ret)))),115,2⟩
def k61:CF:=⟨[],(.seq (.drw [0,1,2,3,4,5,6,7,8,9,10,11,12,13,14,15] [o2,o6,o14,o55,o2,o6,o20,o1,o5,.c none p110 [x5,x1,x0],o0,o7,o8,.fl 83 z83,o76,o9] [(p5,2),(p6,0)]) (S [o15,o59] [] (.ops [o2,o114,o68,o14,o76] []))),51,2⟩
def k62:CF:=⟨[.t p7],(S [o3] [(p7,0)] (S [o2,o6,o20,o1,o5,o10,.c none p111 [x2,x1,x0],o0,o7,o8,o4,o4] [(p8,1),(p9,0)] (S [o29,o59] [] (S [o11,o0] [(p7,0)] .ret)))),455,3⟩
def k63:CF:=⟨[.t p7],(S [o3] [(p7,0)] (S [o2,o6,o20,o1,o5,o10,.c none p112 [x2,x1,x0],o0,o7,o8,o33,o9,o9,o9] [(p8,2),(p9,1),(p10,0)] (S [o12,o59] [] (S [o2,o11,.c none p60 [x1,x0]] [] (S [o2,o29,.c none p62 [x1,x0]] [] (S [o11,o0] [(p7,0)] .ret)))))),967,3⟩
def k64:CF:=⟨[.t p5],(S [o3] [(p5,0)] (.seq (.drw [0,1,2,3,4,5,6,7,8,9,10,11,12,13,14,15,16,17] [o2,o6,o14,o55,o2,o6,o20,o1,o5,.c none p113 [x5,x1,x0],o0,o7,o8,o33,.fl 83 z83,o260,o42,o42] [(p6,3),(p7,1),(p8,0)]) (S [o11,o59] [] (S [o2,.v none (.ldn 4 t6) 0,o68,o14,o76] [] (S [o16,o0] [(p5,0)] .ret))))),243,2⟩
def k65:CF:=⟨[.t p5],(S [o3] [(p5,0)] (S [o2,o6,o20,o1,o5,o261,o184,o0,o7,o8,o4,o4] [(p6,1),(p7,0)] (S [o16,o59] [] (S [o15,o0] [(p5,0)] .ret)))),115,2⟩
def k66:CF:=⟨[.t p3],(S [.e none (.box 30 t1),o21] [(p2,1),(p3,0)] (S [o185,.c none p114 [x0],.v none (.ar .add .o x0 (.c (.i .i64 7))) 0,o69,.v none (.ar .quo .o x0 (.c (.i .i64 7))) 0,o193,.e none (.al 3 z3),o26] [(p4,1)] (S [.e none (.al 248 z248)] [(p5,0)] (S [.v none (.mkf p115 [] [t2,t4,t5]) 0,o0] [(p6,0)] (.seq (S [o221,o3] [(p15,1),(p16,0)] (.block 0 (.loop (S [o250] [(p17,0)] (.seq (.cond t17 .skip (.exit 0)) (.seq (.block 1 (S [o38,o0] [(p7,0)] (.ops [o15,o16,.cv none x1 [x0]] []))) (.ops [o208,o0] [(p16,0)]))))))) (S [.v none (.ld t5) 0,o122,o0] [(p3,0)] .ret)))))),114815,1⟩
def k67:CF:=⟨[.t p3],(S [o173,o13] [(p2,1),(p3,0)] (S [.c none p74 [t2],o0] [(p4,0)] (.seq (S [o19,o23,o3] [(p8,2),(p9,1),(p10,0)] (.block 0 (.loop (S [.v none (.ar .lss .o t10 t9) 0] [(p11,0)] (.seq (.cond t11 .skip (.exit 0)) (.seq (.block 1 (S [.v none (.ia 5 t8 t10) 0,o171,o143,o172] [(p6,1)] (.block 2 (S [o145,o1,o99,o0] [(p14,0)] (.cond t14 (S [o145,o1,o6,o1,.c none p53 [x0],o25] [(p23,0)] (.cond t23 (S [o13] [(p3,0)] .ret) .skip)) (.seq (.drw [0,2,3,1,4,5,6,8,9,7,10,11,12] [.v none (.ldn 5 t6) 0,o100,o30,.c none p77 [x2],.v none (.ar .lss .o x0 x1) 0,o0,.v (some (.l 0,false)) (.ldn 5 t6) 0,.v (some (.l 1,false)) (.fa 1 t6) 0,.v (some (.l 2,false)) (.ld x0) 1,.c (some (.l 3,false)) p77 [x2],.v (some (.l 4,false)) (.ar .gtr .o x0 x1) 0,o222,o0] [(p24,0)]) (.cond t24 (S [o13] [(p3,0)] .ret) .skip))))))) (.ops [.v none (.ar .add .o t10 (.c (.i .i64 1))) 0,o0] [(p10,0)]))))))) (.seq (.drw [0,1,2,3,4,5,6,7,8] [o19,.v none (.ar .neq .l x0 (.c .sn)) 0,o0,.v (some (.l 0,true)) (.ldn 13 t2) 1,.v (some (.l 1,true)) (.ldn 13 t2) 0,.c (some (.l 2,true)) p116 [x0],.v (some (.l 3,true)) (.ar .eql (.a z81) x2 x0) 0,o155,o0] [(p3,0)]) .ret)))),12593071,1⟩
def k68:CF:=⟨[.t p7,.t p8],(S [.e none (.box 30 t2),o22,o3] [(p5,2),(p7,1),(p8,0)] (.seq (S [.v none (.ld t5) 0,.v none (.ar .lss .o x0 (.c (.i .u64 1))) 0,o0,.v (some (.l 0,false)) (.ld t5) 0,.v (some (.l 1,false)) (.ar .gtr .o x0 (.c (.i .u64 4294967296))) 0,o35,o0,o223,.v (some (.l 1,false)) (.ar .lss .o x0 (.c (.i .i64 1))) 0,o35,o0,o223,.v (some (.l 1,false)) (.ar .gtr .o x0 (.c (.i .i64 1000))) 0,o35,o0,o58,.v (some (.l 1,false)) (.ln .s x0) 0,.v (some (.l 2,false)) (.ar .lss .o x0 (.c (.i .i64 1))) 0,o63,o0,o58,.v (some (.l 1,false)) (.ln .s x0) 0,.v (some (.l 2,false)) (.ar .gtr .o x0 (.c (.i .i64 4096))) 0,o63] [(p36,0)] (.cond t36 (S [o22,o39] [(p7,1),(p8,0)] .ret) .skip)) (S [o2,o64,o10,o75,o69,o10,.v none (.ar .quo .o x1 x0) 0,.e none (.al 3 z3),o26] [(p9,1)] (.seq (S [.v none (.ld t9) 0,.v none (.ar .gtr .o x0 (.c (.i .i64 16))) 0] [(p45,0)] (.cond t45 (S [o22,o142] [(p7,1),(p8,0)] .ret) .skip)) (S [.e none (.al 172 z172)] [(p10,0)] (.seq (S [o2,.e none (.cvb 5 x0),o10,.c none p117 [x1,x0]] [] (.block 0 (.ops [o53] []))) (S [.v none (.ld t10) 0,o0,o3] [(p7,1),(p8,0)] .ret))))))),17626545783767,3⟩
def k71:CF:=⟨[.t p5,.t p6,.t p7],(S [o92,o3,o3] [(p5,2),(p6,1),(p7,0)] (.seq (S [o5,o83,o0,o84,o224,.v (some (.l 2,false)) (.ln .s x0) 0,o262,o71] [(p18,0)] (.cond t18 (S [o92,o3,o39] [(p5,2),(p6,1),(p7,0)] .ret) .skip)) (S [o92] [(p8,0)] (.seq (S [o2,o5,.v none (.sls x1 (some x0) none) 0,.e none (.cvb 5 x0),o23,o3] [(p22,2),(p23,1),(p24,0)] (.block 0 (.loop (S [.v none (.ar .lss .o t24 t23) 0] [(p25,0)] (.seq (.cond t25 .skip (.exit 0)) (.seq (.block 1 (S [.v none (.mv t24) 0,.v none (.ia 1 t22 t24) 0,o1,o9,o4] [(p9,1),(p10,0)] (.seq (S [o29,o54,o0,.v (some (.l 0,true)) (.mv t10) 0,.v (some (.l 1,true)) (.ar .eql .o x0 (.c (.i .u8 128))) 0,o40,o0,o207,.c (some (.l 1,false)) p114 [x0],.v (some (.l 2,false)) (.ar .gtr .o x0 (.c (.i .i64 57))) 0,o63] [(p39,0)] (.cond t39 (S [o92,o3,o82] [(p5,2),(p6,1),(p7,0)] .ret) .skip)) (S [o11,.v none (.ar .shl .o x0 (.c (.i .u64 7))) 0,o12,.v none (.ar .and .o x0 (.c (.i .u8 127))) 0,o41,.v none (.ar .or .o x3 x0) 0,o0] [(p8,0)] (S [o12,.v none (.ar .lss .o x0 (.c (.i .u8 128))) 0] [(p47,0)] (.cond t47 (S [o11,o5,o29,o75,o44,o131,o4,o3] [(p5,2),(p6,1),(p7,0)] .ret) .skip)))))) (.ops [.v none (.ar .add .o t24 (.c (.i .i64 1))) 0,o0] [(p24,0)]))))))) (S [o92,o3,.v none (.mv (.c (.i .i64 2))) 0] [(p5,2),(p6,1),(p7,0)] .ret))))),70643653673971,2⟩
def k72:CF:=⟨[.t p3],(S [.e none (.box 96 t1),o13] [(p2,1),(p3,0)] (S [o98,o1,.v none (.ar .geq .o x0 (.c (.i .u64 1))) 0,o0,.v (some (.l 0,true)) (.fa 0 t2) 0,o50,.v (some (.l 2,true)) (.ar .leq .o x0 (.c (.i .u64 4294967296))) 0,o60,o0,.v (some (.l 0,true)) (.fa 2 t2) 0,o50,.v (some (.l 2,true)) (.ar .geq .o x0 (.c (.i .i64 1))) 0,o60,o0,.v (some (.l 0,true)) (.fa 2 t2) 0,o50,.v (some (.l 2,true)) (.ar .leq .o x0 (.c (.i .i64 16))) 0,o60,o0,.v (some (.l 0,true)) (.fa 1 t2) 0,o50,.v (some (.l 2,true)) (.ar .geq .o x0 (.c (.i .i64 0))) 0,o60,o0,.v (some (.l 0,true)) (.fa 1 t2) 0,o50,.v (some (.l 2,true)) (.fa 2 t2) 0,o51,.v (some (.l 4,true)) (.ar .lss .o x2 x0) 0,o107,o0,o263,o50,o264,.v (some (.l 3,true)) (.ar .geq .o x0 (.c (.i .i64 1))) 0,o155,o0,o263,o50,o264,.v (some (.l 3,true)) (.ar .leq .o x0 (.c (.i .i64 1000))) 0,o155,o0] [(p3,0)] .ret)),7,1⟩
def k74:CF:=⟨[.t p7,.t p8],(S [.e none (.box 188 t1),o3,o3] [(p4,2),(p7,1),(p8,0)] (.seq (S [o97,o1,o99] [(p17,0)] (.cond t17 (S [o5,o10,.c none p121 [x1,x0,(.c (.i .i64 8))],o0,o7,o8,o33,o9,o9,o9] [(p9,2),(p10,1),(p11,0)] (S [o97,o1,o29,o68,o26] [] (S [o12,o17,o4,o4] [(p7,1),(p8,0)] .ret))) .skip)) (S [o5,o10,.c none p72 [x1,x0],o0,o7,o8,o33,o9,o9,o9] [(p12,2),(p13,1),(p14,0)] (.seq (S [o24,o54,o0,.v (some (.l 0,true)) (.mv t12) 0,.v (some (.l 1,true)) (.ar .gtr .o x0 (.c (.i .u64 4294967296))) 0,o40] [(p43,0)] (.cond t43 (.ops [o82] [(p14,0)]) .skip)) (.seq (S [o24,o54] [(p45,0)] (.cond t45 (.ops [o201,o31,.c none p122 [x1,x0]] []) .skip)) (S [o37,o24,o4,o4] [(p7,1),(p8,0)] .ret)))))),21990232637391,3⟩
end
end EV
end Go.Proofs.YtadggjnohohedaaGreatDoor
