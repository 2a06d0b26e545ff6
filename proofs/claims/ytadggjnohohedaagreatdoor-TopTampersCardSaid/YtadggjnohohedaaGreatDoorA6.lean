/- TopTampers: for every input the call returns true; part A6 of the proof. -/
import Derived.Test.YtadggjnohohedaaGreatDoorA5
import Derived.Lib.LaidTab
import Derived.KernelRfl
set_option linter.unusedVariables false
set_option linter.unusedSimpArgs false
set_option linter.unusedSectionVars false
namespace Go.Proofs.YtadggjnohohedaaGreatDoor
namespace EV
section
open KK
set_option maxRecDepth 100000
def k75:CF:=⟨[.t p3],(S [o21] [(p3,0)] (S [o2,o64,o41,.c none p67 [x0],o2,o146,o0] [(p3,0)] .ret)),5,1⟩
def k76:CF:=⟨[.t p3],(S [.e none (.box 188 t1),o92] [(p2,1),(p3,0)] (.seq (S [o210,o1,o99] [(p6,0)] (.cond t6 (S [o210,o1,o6,o1,o0] [(p3,0)] .ret) .skip)) (S [o211,o1,o6,o1,o41,o0] [(p3,0)] .ret))),39,1⟩
def k77:CF:=⟨[.t p7,.t p8,.t p9],(S [.e none (.box 96 t2),o21,o13,o3] [(p5,3),(p7,2),(p8,1),(p9,0)] (.seq (S [o114,.c none p73 [x0],o25] [(p18,0)] (.cond t18 (S [o21,o13,o39] [(p7,2),(p8,1),(p9,0)] .ret) .skip)) (S [o2,o10,.c none p123 [x1,x0]] [] (.seq (S [o174,o1,o90] [(p24,0)] (.cond t24 (S [.v none (.fa 3 t5) 0,o1,o0,o49,o3] [(p7,2),(p8,1),(p9,0)] .ret) .skip)) (.seq (.drw [0,1,2,3,4,5,6,7,8,9,10,11] [o2,o6,o20,o1,o149,o1,.v none (.lk .u64 .pn x2 x0 true) 0,o0,o7,o8,o4,o4] [(p10,1),(p11,0)]) (.seq (S [o17] [(p37,0)] (.cond t37 (.seq (.drw [0,1,2,3,4,5,6,7,8,9,10,11] [o12,o6,o14,o1,.v none (.fa 1 t5) 0,o1,.v none (.lk .i64 (.s 0 0) x2 x0 true) 0,o0,o7,o8,o4,o4] [(p13,0)]) (.block 0 (.seq (.drw [0,1,2,3,4,5,6,7] [o12,o6,o20,o1,o174,o1,.v none (.ar .neq .o x2 x0) 0,o0] [(p48,0)]) (.cond t48 (S [o21,o13,o82] [(p7,2),(p8,1),(p9,0)] .ret) (S [o37,o0] [(p56,0)] (.cond t56 (S [o21,o13,.v none (.mv (.c (.i .i64 6))) 0] [(p7,2),(p8,1),(p9,0)] .ret) .skip)))))) .skip)) (.seq (.seq (.drw [0,1,2,3,4,5,6,7,8,9,10,11,12,13,14,15,16,17,18,19,20,21,22,23,24,25,26,27,28] [o17,o25,o0,o52,o85,.v (some (.l 2,true)) (.fa 0 x0) 0,o51,.v (some (.l 4,true)) (.ln .m x0) 0,.v (some (.l 5,true)) (.mv t1) 0,.v (some (.l 6,true)) (.nc x0) 0,.v (some (.l 7,true)) (.fa 1 x0) 0,o265,.v (some (.l 9,true)) (.ar .geq .o x4 x0) 0,.v none (.pick x10 x0 (.c (.b false))) 0,o0,o58,o225,.v (some (.l 2,false)) (.fa 3 x0) 0,o120,.v (some (.l 4,false)) (.fa 3 t5) 0,o181,.v (some (.l 6,false)) (.ln .s x0) 0,.v (some (.l 7,false)) (.ar .add .o x3 x0) 0,.v (some (.l 8,false)) (.mv t1) 0,.v (some (.l 9,false)) (.nc x0) 0,.v (some (.l 10,false)) (.fa 2 x0) 0,.v (some (.l 11,false)) (.ld x0) 0,.v (some (.l 12,false)) (.ar .gtr .o x4 x0) 0,.v none (.pick x13 (.c (.b true)) x0) 0] [(p86,0)]) (.cond t86 (S [o21,o13,.v none (.mv (.c (.i .i64 8))) 0] [(p7,2),(p8,1),(p9,0)] .ret) .skip)) (.seq (S [o17,o25] [(p88,0)] (.cond t88 (S [o174,o1,o150,o10,.v none (.bld z274 [(0,1,x2),(1,1,x1),(2,1,x0)]) 0,.e none (.box 274 x0),o0] [(p10,0)] (.drw [0,1,2,3,4,5,6,7] [o2,o6,o20,o1,o149,o1,o12,.e none (.mu .u64 x3 x1 x0)] [])) .skip)) (.seq (S [o2,o12,o114,.c none p124 [x2,x1,x0],o25] [(p106,0)] (.cond t106 (S [o21,o13,o3] [(p7,2),(p8,1),(p9,0)] .ret) .skip)) (S [o2,o149,o1,.c none p125 [x2,x0]] [] (S [o21] [(p14,0)] (.seq (S [o12,o6,o20,o1,o3] [(p114,1),(p115,0)] (.block 1 (.loop (S [.v none (.ar .lss .o t115 t114) 0] [(p116,0)] (.seq (.cond t116 .skip (.exit 1)) (.seq (.block 2 (S [.v none (.mv t115) 0,o0] [(p15,0)] (.ops [o24,o12,o6,o14,o1,o32,.v none (.lk .i64 (.s 0 0) x1 x0 false) 0,.v none (.ar .add .s x6 x0) 0,o0] [(p14,0)]))) (.ops [.v none (.ar .add .o t115 (.c (.i .i64 1))) 0,o0] [(p115,0)]))))))) (.seq (S [o24,o64,o245] [(p129,0)] (.cond t129 (S [o21,o13,o142] [(p7,2),(p8,1),(p9,0)] .ret) .skip)) (S [o24,o0,o49,o3] [(p7,2),(p8,1),(p9,0)] .ret)))))))))))))),340355099641970586484689392546068199383,3⟩
def k78:CF:=⟨[.t p1],(S [.v none (.mv (.c .mn)) 0] [(p1,0)] (S [o150,.e none (.mu .i64 x0 (.c (.i .i64 1)) (.c (.f p126 [] []))),.e none (.mu .i64 x1 (.c (.i .i64 2)) (.c (.f p127 [] []))),.e none (.mu .i64 x2 (.c (.i .i64 3)) (.c (.f p128 [] []))),.e none (.mu .i64 x3 (.c (.i .i64 4)) (.c (.f p129 [] []))),o131,o0] [(p1,0)] .ret)),1,0⟩
def k80:CF:=⟨[.t p5,.t p6],(S [.e none (.box 201 t1),o3,o3] [(p3,2),(p5,1),(p6,0)] (S [o5,o123,o1,.c none p131 [x2,x0,(.c (.i .u64 1))],o7,o8,o4,o4] [(p5,1),(p6,0)] .ret)),55,2⟩
def k81:CF:=⟨[.t p11,.t p12],(S [o3,o3] [(p11,1),(p12,0)] (.seq (S [o2,o5,.c none p132 [x1,x0],o25,o0,o58,o259,o266,o200,o71] [(p24,0)] (.cond t24 (S [o3,o39] [(p11,1),(p12,0)] .ret) .skip)) (S [o2,o27,o261,o184,o0,o7,o8,o4,o4] [(p13,1),(p14,0)] (.seq (S [o24,o18] [(p33,0)] (.cond t33 (S [o24,o3,o4] [(p11,1),(p12,0)] .ret) .skip)) (S [o2,o5,o10,o19,o37,.c none p133 [x4,x3,x2,x1,x0],o7,o8,o4,o4] [(p11,1),(p12,0)] .ret))))),4303371295,5⟩
def k82:CF:=⟨[.c p3 9 true],(S [o148,.e none (.al 217 z217)] [(p2,1),(p3,0)] (S [o211,o77,.v none (.fa 6 t2) 0,o77,o98,o77,.v none (.bld z217 [(0,3,x4),(3,3,x2),(6,3,x0)]) 0,.e none (.st 9 t3 x0)] [] .ret)),7,1⟩
def k83:CF:=⟨[.t p3],(S [.e none (.box 112 t1),o13] [(p2,1),(p3,0)] (S [o98,o1,.v none (.ar .neq .o x0 (.c (.i .u64 0))) 0,o0] [(p3,0)] .ret)),7,1⟩
def k84:CF:=⟨[.c p3 3 true,.t p4],(S [.e none (.al 220 z220),o3] [(p3,1),(p4,0)] (.seq (S [o2,o64,.v none (.ar .gtr .o x0 (.c (.i .i64 65536))) 0] [(p11,0)] (.cond t11 (S [.v none (.bld z220 []) 0,.e none (.st 3 t3 x0),o142] [(p4,0)] .ret) .skip)) (S [o2,.v none (.bld z284 [(0,1,x0)]) 0,.e none (.box 284 x0),.v none (.bld z220 []) 0,.e none (.al 220 z220),o9,.e none (.st 3 x1 x2)] [(p5,1),(p6,2)] (.seq (S [o27,.c none p134 [x0,(.c (.i .u64 8)),(.c (.i .i64 4))],o0] [(p7,0)] (.block 0 (.loop (.seq (S [o16,.v none (.ar .gtr .o x0 (.c (.i .u64 0))) 0,o0,o267,o85,.v (some (.l 2,true)) (.fa 2 x0) 0,o51,.v (some (.l 4,true)) (.ar .eql .o x0 (.c (.i .i64 0))) 0,o107] [(p27,0)] (.cond t27 .skip (.exit 0))) (.seq (.block 1 (.drw [0,1,2,3,4,5,6,7] [o100,o93,o27,.c none p135 [x0,(.c (.i .i64 8))],.e none (.bsl 9 1 1 [(.s 0 0)] [(0,1,x0)]),.e none (.ap 9 1 16 x3 x0),o100,o26] [])) (.ops [o16,.v none (.ar .sub .o x0 (.c (.i .u64 1))) 0,o0] [(p7,0)])))))) (S [o27,.c none p134 [x0,(.c (.i .u64 1000)),(.c (.i .i64 15))],o43,o217,o26] [] (.seq (S [o27,.c none p134 [x0,(.c (.i .u64 200)),(.c (.i .i64 4))],o0] [(p8,0)] (.block 2 (.loop (.seq (S [o11,.v none (.ar .gtr .o x0 (.c (.i .u64 0))) 0,o0,o267,o85,.v (some (.l 2,true)) (.fa 2 x0) 0,o51,.v (some (.l 4,true)) (.ar .eql .o x0 (.c (.i .i64 0))) 0,o107] [(p51,0)] (.cond t51 .skip (.exit 2))) (.seq (.block 3 (.drw [0,1,2,3,4,5,6,7] [o182,o93,o27,.c none p136 [x0],.e none (.bsl 47 7 1 [(.i .i64 0),(.i .i64 0),(.i .i64 0),(.i .i64 0),(.i .i64 0),(.i .u64 0),(.s 0 0)] [(0,7,x0)]),.e none (.ap 47 7 64 x3 x0),o182,o26] [])) (.ops [o11,.v none (.ar .sub .o x0 (.c (.i .u64 1))) 0,o0] [(p8,0)])))))) (.seq (S [o27,o6,o36,o1,o54,o0,o267,o85,o119,o51,o186,.v (some (.l 5,true)) (.ln .s x0) 0,.v (some (.l 6,true)) (.ar .neq .o x2 x0) 0,o138] [(p74,0)] (.cond t74 (.ops [o27,o6,o36,.e none (.st 1 x0 (.c (.i .i64 15)))] []) .skip)) (.seq (S [o27,o6,o36,o1,o18] [(p82,0)] (.cond t82 (.seq (.drw [0,1,2,3,4,5,6] [.v none (.bld z220 []) 0,o27,o6,o36,o30,.e none (.st 3 t3 x4),o4] [(p4,0)]) .ret) .skip)) (S [o160,.e none (.st 3 t3 x0),o3] [(p4,0)] .ret))))))))),2427296373320897613792509,1⟩
def k85:CF:=⟨[.t p5],(S [o21] [(p5,0)] (S [o21] [(p6,0)] (.seq (S [o5,o23,o3] [(p12,2),(p13,1),(p14,0)] (.block 0 (.loop (S [o256] [(p15,0)] (.seq (.cond t15 .skip (.exit 0)) (.seq (.block 1 (S [.v none (.ia 7 t12 t14) 0,.v none (.ldn 7 x0) 0,.e none (.al 47 z47),o268] [(p8,1)] (S [o2,.v none (.ldn 7 t8) 0,.c none p40 [x1,x0],o0,o7,o8,o33,o94,.e none (.st 6 x0 x3),o42,o42] [(p9,3),(p10,1),(p11,0)] (.ops [o15,.v none (.ldn 6 t9) 0,o12,o17,.c none p137 [x2,x1,x0],.v none (.ar .add .s x4 x0) 0,o0] [(p6,0)])))) (.ops [o257,o0] [(p14,0)]))))))) (S [o15,o0] [(p5,0)] .ret)))),32691,2⟩
def k86:CF:=⟨[.t p3],(S [o21] [(p3,0)] (.seq (S [o2] [(p4,0)] (.cond t4 (S [.v none (.mv (.c (.s 1 43))) 0] [(p3,0)] .ret) .skip)) (S [.v none (.mv (.c (.s 1 45))) 0] [(p3,0)] .ret))),13,1⟩
def k87:CF:=⟨[.t p3],(S [o3] [(p3,0)] (S [o2,o6,o81,o1,o73,o159,o81,o74] [] (.seq (.drw [0,1,2,3,4,5,6,7,8,9,10,11,12,13,14] [o2,o6,o20,o1,o2,o6,o81,o1,o239,.c none p26 [x5,x0],o0,o7,o8,o4,o4] [(p4,1)]) (S [o19,o0] [(p3,0)] .ret)))),13,1⟩
def k88:CF:=⟨[.t p5],(S [.e none (.box 47 t2),o13] [(p4,1),(p5,0)] (.seq (S [o28,o1] [(p7,0)] (.block 0 (.seq (S [.v none (.ar .eql .o t7 (.c (.i .i64 0))) 0,o0] [(p8,0)] (.cond t8 .skip (S [.v none (.ar .eql .o t7 (.c (.i .i64 2))) 0,o0] [(p8,0)] (.cond t8 .skip (S [.v none (.ar .eql .o t7 (.c (.i .i64 3))) 0,o0] [(p8,0)] (.cond t8 .skip (S [.v none (.ar .eql .o t7 (.c (.i .i64 4))) 0,o0] [(p8,0)] (.cond t8 .skip (.ops [.v none (.ar .eql .o t7 (.c (.i .i64 6))) 0,o0] [(p8,0)]))))))))) (.cond t8 (S [o2,o65,o1,o46,o1,.c none p41 [x4,x2,x0],o0] [(p5,0)] .ret) (S [.v none (.ar .eql .o t7 (.c (.i .i64 1))) 0,o0] [(p20,0)] (.cond t20 (S [o79,o1,o54,o0,.v (some (.l 0,false)) (.fa 3 t4) 0,o57,o243,o249,o52,.v (some (.l 1,true)) (.fa 1 t4) 0,o269,.v (some (.l 3,true)) (.fa 2 t4) 0,o137,.c (some (.l 5,true)) p41 [x4,x2,x0],.v (some (.l 10,false)) (.pick x6 x0 (.c (.b false))) 0,.v none (.pick x11 (.c (.b true)) x0) 0,o0] [(p5,0)] .ret) (S [.v none (.ar .eql .o t7 (.c (.i .i64 8))) 0,o0] [(p38,0)] (.cond t38 (S [o2,o65,o1,.c none p100 [x2,x0],o0] [(p5,0)] .ret) .skip)))))))) (S [o28,o1,o136,o0,.v (some (.l 0,true)) (.fa 0 t4) 0,o50,.v (some (.l 2,true)) (.ar .lss .o x0 (.c (.i .i64 10))) 0,o60,o0] [(p5,0)] .ret))),137439477979,2⟩
def k89:CF:=⟨[.c p5 6 true,.t p6,.t p7],(S [.e none (.box 47 t2),o94,o3,o3] [(p4,3),(p5,2),(p6,1),(p7,0)] (S [.e none (.al 31 z31)] [(p8,0)] (.seq (S [o3] [(p12,0)] (.block 0 (.loop (S [.v none (.ar .lss .o t12 (.c (.i .i64 3))) 0] [(p13,0)] (.seq (.cond t13 .skip (.exit 0)) (.seq (.block 1 (S [o31,o0] [(p9,0)] (.ops [o29,o2,o175,.v none (.iar 3 1 t8 x2) 0,o26] []))) (.ops [o206,o0] [(p12,0)]))))))) (.seq (.drw [0,1,2,3,4,5,6,7,8,9,10,11,13,14,15,16,17,18,19,12,20,21,22,23,24,25] [o2,o6,o14,o30,o65,o30,o156,o30,o65,o1,o46,o1,o79,o30,o2,o6,o36,o30,.v none (.ldn 3 t8) 1,.c none p43 [x9,x7],.c none p7 [x12,x0,x6,x2,x1],o0,o7,o8,o4,o4] [(p10,1),(p11,0)]) (.seq (S [o17,o18] [(p45,0)] (.cond t45 (S [o48,o17,o102,o3,o9] [(p6,1),(p7,0)] .ret) .skip)) (S [o48,o2,o65,o1,o46,o1,o12,.c none p138 [x5,x3,x1,x0],.e none (.st 6 t5 x7),o4,o3] [(p6,1),(p7,0)] .ret)))))),17592186052603,2⟩
def k99:CF:=⟨[.t p5],(S [o13] [(p5,0)] (S [o5,o136,o0,o166,o202,o203,.v (some (.l 3,true)) (.fa 1 x0) 0,o137,.v (some (.l 5,true)) (.ln .l x0) 0,.v (some (.l 6,true)) (.ar .lss .o x5 x0) 0,o138,o0] [(p5,0)] .ret)),19,2⟩
def k100:CF:=⟨[.t p3,.t p4],(S [o3,o3] [(p3,1),(p4,0)] (.seq (.drw [0,1,2,3,4,5,6,7,8,9,10] [o2,o6,o20,o1,.v none (.ln .m x0) 0,o2,o6,o81,o1,o131,o4] [(p3,1),(p4,0)]) .ret)),13,1⟩
def k101:CF:=⟨[.t p3],(S [o22] [(p3,0)] (.seq (.drw [0,1,2,3,4,5,6,7,8,9,10,11,12,13] [o2,o6,o14,o20,o20,o1,o2,o6,o14,o20,o14,o1,.e none (.bsl 3 1 2 [(.i .i64 0),(.i .i64 0)] [(0,1,x6),(1,1,x0)]),o0] [(p4,0)]) (.seq (S [o2,o6,o14,o36,o1,o23,o3] [(p29,2),(p30,1),(p31,0)] (.block 0 (.loop (S [.v none (.ar .lss .o t31 t30) 0] [(p32,0)] (.seq (.cond t32 .skip (.exit 0)) (.seq (.block 1 (S [.v none (.ia 4 t29 t31) 0,o55,.e none (.al 64 z64),o134] [(p6,1)] (.ops [o19,o182,.v none (.sla 2 1 x0 none none) 0,.e none (.ap 3 1 8 x2 x0),o0] [(p4,0)]))) (.ops [.v none (.ar .add .o t31 (.c (.i .i64 1))) 0,o0] [(p31,0)]))))))) (.seq (S [o2,o6,o87,o1,.c none p145 [x0],o23,o3] [(p44,2),(p45,1),(p46,0)] (.block 2 (.loop (S [.v none (.ar .lss .o t46 t45) 0] [(p47,0)] (.seq (.cond t47 .skip (.exit 2)) (.seq (.block 3 (S [.v none (.ia 1 t44 t46) 0,o1,o0] [(p8,0)] (S [o2,o6,o87,o1,o11,.v none (.lk .u64 (.a [(.i .i64 0),(.i .i64 0),(.i .i64 0),(.i .i64 0),(.i .u64 0),(.i .i64 0),(.i .i64 0),(.s 0 0),(.i .u64 0)]) x1 x0 false) 0,.v none (.fld 1 7 true x0) 0,.e none (.al 85 z85),o268] [(p9,1)] (.ops [o19,o72,o20,o1,.v none (.fa 4 t9) 0,o1,.v none (.fa 5 t9) 0,o1,.e none (.bsl 3 1 3 [(.i .i64 0),(.i .i64 0),(.i .i64 0)] [(0,1,x4),(1,1,x2),(2,1,x0)]),.e none (.ap 3 1 8 x8 x0),o0] [(p4,0)])))) (.ops [.v none (.ar .add .o t46 (.c (.i .i64 1))) 0,o0] [(p46,0)]))))))) (.seq (S [o2,o6,o78,o1,.c none p146 [x0],o23,o3] [(p72,2),(p73,1),(p74,0)] (.block 4 (.loop (S [.v none (.ar .lss .o t74 t73) 0] [(p75,0)] (.seq (.cond t75 .skip (.exit 4)) (.seq (.block 5 (S [.v none (.ia 1 t72 t74) 0,o1,o0] [(p11,0)] (.ops [o19,o2,o6,o78,o1,o17,.v none (.lk .u64 .pn x1 x0 false) 0,.c none p147 [x0],.e none (.ap 3 1 8 x7 x0),o0] [(p4,0)]))) (.ops [.v none (.ar .add .o t74 (.c (.i .i64 1))) 0,o0] [(p74,0)]))))))) (S [o19,o0] [(p3,0)] .ret)))))),35417748753467760969133,1⟩
def k103:CF:=⟨[.t p5,.t p6],(S [o13,o3] [(p5,1),(p6,0)] (.seq (.drw [0,1,2,3,4,6,7,8,9,10,5,11,12,13,14,15] [o2,o6,o20,o30,o2,o2,o6,o205,.v none (.ldn 2 x0) 1,o5,.c none p150 [x5],.c none p149 [x7,x0,x2,x1],o7,o8,o4,o4] [(p5,1),(p6,0)]) .ret)),51,2⟩
def k105:CF:=⟨[.c p5 4 true,.t p6],(S [o101,o3] [(p5,1),(p6,0)] (S [o2,o5,o261,o184,o0,o7,o8,o4,o4] [(p7,1),(p8,0)] (.seq (S [o11,o18] [(p17,0)] (.cond t17 (S [o124,o11,.e none (.st 4 t5 x1),o4] [(p6,0)] .ret) .skip)) (S [o16,o16,.v none (.bld z83 [(0,1,x1),(2,1,x0)]) 0,.e none (.st 4 t5 x0),o3] [(p6,0)] .ret)))),65779,2⟩
def k106:CF:=⟨[.t p5,.t p6],(S [o3,o3] [(p5,1),(p6,0)] (S [o2,o5,.v none (.bld z94 [(0,1,(.c (.i .i64 3))),(3,1,x0)]) 0,o184,o7,o8,o4,o4] [(p5,1),(p6,0)] .ret)),51,2⟩
def k107:CF:=⟨[.c p7 4 true,.t p8],(S [o125,o101,o3] [(p4,2),(p7,1),(p8,0)] (S [o5,o46,o1,o10,.c none p151 [x3,x1,x0],o0,o7,o8,o4,o4] [(p9,1),(p10,0)] (.seq (S [o12,o18] [(p20,0)] (.cond t20 (S [o124,o12,.e none (.st 4 t7 x1),o4] [(p8,0)] .ret) .skip)) (S [o29,o46,o26] [] (S [o103,o226,o3] [(p8,0)] .ret))))),525263,3⟩
def k108:CF:=⟨[.t p5,.t p6],(S [o3,o3] [(p5,1),(p6,0)] (S [o2,o5,.v none (.bld z94 [(0,1,(.c (.i .i64 5))),(3,1,x0)]) 0,o184,o7,o8,o4,o4] [(p5,1),(p6,0)] .ret)),51,2⟩
def k109:CF:=⟨[.c p7 4 true,.t p8],(S [o125,o101,o3] [(p4,2),(p7,1),(p8,0)] (S [o5,o28,o1,o10,.c none p152 [x3,x1,x0],o0,o7,o8,o33,o9,o9,o9] [(p9,2),(p10,1),(p11,0)] (.seq (S [o17,o18] [(p22,0)] (.cond t22 (S [o124,o17,.e none (.st 4 t7 x1),o4] [(p8,0)] .ret) .skip)) (S [o29,o12,o46,o1,.v none (.bld z83 [(0,1,x3),(1,1,x2),(2,1,x0)]) 0,o226,o3] [(p8,0)] .ret)))),2099151,3⟩
def k110:CF:=⟨[.t p7,.t p8],(S [o3,o3] [(p7,1),(p8,0)] (S [o2,o5,o80,o0,o7,o8,o66,o56,o9] [(p10,0)] (S [o2,o10,o80,o0,o7,o8,o66,o56,o9] [(p11,2)] (.seq (S [o12,o25,o0,.v (some (.l 0,false)) (.fa 0 t11) 0,o57,.v (some (.l 2,false)) (.ar .neq .o x0 (.c (.i .i64 3))) 0,o63] [(p32,0)] (.cond t32 (S [o3,o39] [(p7,1),(p8,0)] .ret) .skip)) (S [o5,.v none (.fa 3 t11) 0,o1,o112,.e none (.al 62 z62),o177] [(p13,1)] (.seq (S [o270,o1,o271,o1,.v none (.ar .gtr .o x2 x0) 0] [(p41,0)] (.cond t41 (.ops [o271,o1,o270,o1,o112,.e none (.st 2 t13 x0)] []) .skip)) (S [o2,o270,o1,o271,o1,.v none (.bld z94 [(0,1,(.c (.i .i64 4))),(3,1,x2),(4,1,x0)]) 0,.c none p26 [x5,x0],o7,o8,o4,o4] [(p7,1),(p8,0)] .ret))))))),1101659117255,3⟩
def k111:CF:=⟨[.t p7,.t p8,.t p9],(S [o3,o3,o3] [(p7,2),(p8,1),(p9,0)] (S [o2,o5,o80,o0,o7,o8,o66,o56,o9] [(p10,2)] (.seq (S [.v none (.fa 0 t10) 0,o1,.v none (.ar .neq .o x0 (.c (.i .i64 5))) 0,o0,o58,.v (some (.l 1,false)) (.mv t3) 0,.e (some (.l 2,false)) (.bsl 3 1 1 [(.i .i64 0)] [(0,1,x0)]),.c (some (.l 3,false)) p153 [x2,x0],.v (some (.l 4,false)) (.not x0) 0,o222] [(p27,0)] (.cond t27 (S [o3,o3,o39] [(p7,2),(p8,1),(p9,0)] .ret) .skip)) (.seq (S [o2,o117,o1,o10,.v none (.bld z94 [(0,1,(.c (.i .i64 6))),(3,1,x1),(4,1,x0)]) 0,o199,o0,o7,o8,o4,o4] [(p7,1),(p9,0)] (S [o29,o18] [(p38,0)] (.cond t38 (S [o29,o3,o3,o9] [(p7,2),(p8,1),(p9,0)] .ret) .skip))) (.seq (S [o2,o117,o1,o10,.v none (.bld z94 [(0,1,(.c (.i .i64 7))),(3,1,x1),(4,1,x0)]) 0,o199,o0,o7,o8,o4,o4] [(p8,1),(p9,0)] (S [o29,o18] [(p50,0)] (.cond t50 (S [o29,o3,o3,o9] [(p7,2),(p8,1),(p9,0)] .ret) .skip))) (S [o16,o11,o4,o4,o3] [(p7,2),(p8,1),(p9,0)] .ret)))))),563087459484615,3⟩
def k112:CF:=⟨[.c p7 4 true,.t p8,.t p9],(S [o125,o101,o3,o3] [(p4,3),(p7,2),(p8,1),(p9,0)] (.seq (S [o103,.c none p154 [x0],o25] [(p14,0)] (.cond t14 (S [o124,o226,o3,o253] [(p8,1),(p9,0)] .ret) .skip)) (S [o5,o65,o1,o79,o1,o46,o1,o10,.c none p133 [x7,x5,x3,x1,x0],o0,o7,o8,o4,o4] [(p10,1),(p11,0)] (S [o103,o5,o12,o12,o17,.c none p155 [x4,x3,x2,x1,x0],o7,o8,o33,.e none (.st 4 t7 x2),o9,o9] [(p8,1),(p9,0)] .ret)))),10191,3⟩
def k113:CF:=⟨[.t p3],(S [o3] [(p3,0)] (.seq (S [o2,.v none (.ar .geq .o x0 (.c (.i .u64 4294967296))) 0] [(p5,0)] (.cond t5 (S [o2,.v none (.ar .shr .o x0 (.c (.i .u64 32))) 0,o0] [(p1,0)] (.ops [.v none (.mv (.c (.i .i64 32))) 0] [(p3,0)])) .skip)) (.seq (S [o2,.v none (.ar .geq .o x0 (.c (.i .u64 65536))) 0] [(p9,0)] (.cond t9 (S [o2,.v none (.ar .shr .o x0 (.c (.i .u64 16))) 0,o0] [(p1,0)] (.ops [o10,.v none (.ar .add .o x0 (.c (.i .i64 16))) 0,o0] [(p3,0)])) .skip)) (.seq (S [o2,.v none (.ar .geq .o x0 (.c (.i .u64 256))) 0] [(p15,0)] (.cond t15 (S [o2,.v none (.ar .shr .o x0 (.c (.i .u64 8))) 0,o0] [(p1,0)] (.ops [o10,.v none (.ar .add .o x0 (.c (.i .i64 8))) 0,o0] [(p3,0)])) .skip)) (S [o10,o2,o219,.v none (.ixs (.c (.s 256 496986003408712215933005303621146343841837811690876167382323004466384420695090407243345123874780946046625255262057845613767806773758184921447759720770971536008171983842311960805720366577116933250839345203839274948261284255908394484732272583221484877694546905335834403051067785895034095251181560891789708940188598129052595634438001880866652824740680664595948164050600812232986714152902334120417949232733424961741260388658846598210939813666227264727603044226856020347194099943897342244906131705541414413428559898943151040826816076322978570758226444464494629814583418847495712557856038296917933182380796641777551368)) x0) 0,o43,.v none (.ar .add .o x4 x0) 0,o0] [(p3,0)] .ret))))),16661,1⟩
def k114:CF:=⟨[],(S [o185,.v none (.ld t3) 0,o69,o2,o126,.v none (.ar .mul .o (.c (.i .i64 7)) x0) 0,.v none (.ar .shr .o x5 x0) 0,.v none (.ar .and .o x0 (.c (.i .u64 127))) 0,o219,o0] [(p6,0)] (.seq (S [o2,.v none (.ld t3) 0,o69,o164] [(p19,0)] (.cond t19 (.ops [o15,.v none (.ar .or .o x0 (.c (.i .u8 128))) 0,o0] [(p6,0)]) .skip)) (.ops [o221,o15,o220,.e none (.ap 5 1 1 x2 x0),.e none (.st 1 t4 x0)] []))),262191,4⟩
def k115:CF:=⟨[.c p3 13 true],(S [o173,o62] [(p2,1),(p3,0)] (S [o98,o1,.v none (.bld z81 [(0,1,x0)]) 0,o62,o162] [(p4,1)] (S [.c none p74 [t4],o0] [(p5,0)] (.seq (S [.c none p74 [t2],o23,o3] [(p12,2),(p13,1),(p14,0)] (.block 0 (.loop (S [o256] [(p15,0)] (.seq (.cond t15 .skip (.exit 0)) (.seq (.block 1 (S [o24,.v none (.ia 5 t12 t14) 0,o171,o143,o42,.e none (.st 5 x1 x2)] [(p6,1),(p7,2)] (.seq (S [o127,o1,o99] [(p21,0)] (.cond t21 (.seq (.drw [0,1,2,3,4,5,6,7,8,9,10] [o27,o15,.v none (.ia 5 x1 x0) 0,o141,o1,o127,o1,o6,o1,o159,o26] []) (.exit 1)) .skip)) (.drw [0,1,2,3,4,5,6] [o27,o15,.v none (.ia 5 x1 x0) 0,.v none (.ldn 5 x0) 1,.v none (.ldn 5 t7) 0,.c none p77 [x0],.c none p122 [x2,x0]] [])))) (.ops [o257,o0] [(p14,0)]))))))) (S [.v none (.ldn 13 t4) 0,o170] [] .ret))))),1079423,1⟩
def k118:CF:=⟨[.c p3 5 true],(S [o143] [(p3,0)] (S [o2,.v none (.bld z188 [(0,1,(.c (.i .u64 1))),(1,1,(.c (.i .u64 4294967296))),(2,1,x0)]) 0,.e none (.st 5 t3 x0)] [] .ret)),5,1⟩
def k119:CF:=⟨[.c p3 5 true],(S [o143] [(p3,0)] (S [o2,.v none (.bld z188 [(0,1,(.c (.i .u64 1))),(1,1,(.c (.i .u64 1048576))),(3,1,x0)]) 0,.e none (.st 5 t3 x0)] [] .ret)),5,1⟩
def k120:CF:=⟨[.t p7,.t p8,.t p9],(S [o21,o3,o3] [(p7,2),(p8,1),(p9,0)] (S [o2,o5,.c none p72 [x1,x0],o0,o7,o8,o33,o9,o9,o9] [(p10,2),(p11,1),(p12,0)] (.seq (.block 0 (S [o31,o18,o0] [(p21,0)] (.cond t21 (S [o31,o21,o3,o9] [(p7,2),(p8,1),(p9,0)] .ret) (S [o12,o10,.v none (.mx (.c (.i .i64 0)) x0) 0,o41,.v none (.ar .gtr .o x3 x0) 0,o0] [(p25,0)] (.cond t25 (S [o21,o3,o142] [(p7,2),(p8,1),(p9,0)] .ret) (S [o12,o2,o64,o17,o126,o41,.v none (.ar .gtr .o x5 x0) 0,o0] [(p31,0)] (.cond t31 (S [o21,o3,.v none (.mv (.c (.i .i64 2))) 0] [(p7,2),(p8,1),(p9,0)] .ret) .skip))))))) (S [o17,o12,o43,.v none (.ar .add .o x2 x0) 0,o0] [(p13,0)] (S [o2,o17,o37,.v none (.sls x2 (some x1) (some x0)) 0,o37,o4,o4,o3] [(p7,2),(p8,1),(p9,0)] .ret))))),1091575751,3⟩
def k121:CF:=⟨[],(S [.e none (.box 188 t1)] [(p3,0)] (.seq (S [.v none (.fa 2 t3) 0,o1,o99] [(p7,0)] (.cond t7 (S [.v none (.fa 2 t3) 0,o1,o5,o68,o26] [] .ret) .skip)) (.ops [.v none (.fa 3 t3) 0,o1,o5,o43,.v none (.nc x2) 0,o26] []))),71,2⟩
def k122:CF:=⟨[.t p5],(S [o3] [(p5,0)] (S [o3] [(p6,0)] (.seq (S [o2,o6,o20,o1,o110] [(p13,0)] (.block 0 (.loop (S [.e none (.nxt t13),o7] [(p15,0)] (.seq (.cond t15 .skip (.exit 0)) (.block 1 (S [.e none (.ent t13),o7,o8,o4,o4] [(p7,1),(p8,0)] (S [o5,o11,o6,o36,o1,.v none (.ar .gtr .o x4 x0) 0,o0,o166,.v (some (.l 1,true)) (.mv t8) 0,o203,.v (some (.l 3,true)) (.fa 2 x0) 0,o137,.v (some (.l 5,true)) (.ar .sub .o x4 x0) 0,.v (some (.l 6,true)) (.ar .gtr .o x0 (.c (.i .u64 50))) 0,o138] [(p33,0)] (.cond t33 (S [o2,o16,.c none p125 [x1,x0]] [] (.ops [o15,o44,o0] [(p6,0)])) .skip))))))))) (S [o15,o0] [(p5,0)] .ret)))),4294988019,2⟩
def k125:CF:=⟨[.c p5 6 true,.t p6],(S [.e none (.box 198 t2),o94,o3] [(p4,2),(p5,1),(p6,0)] (.seq (.drw [0,1,2,3,4,5,6,7,8,9,10,11,12,13,14,15,16,17,18,19,20,21,22,23,24,25,26,27] [o2,o6,o20,o1,o2,o6,o14,o20,o47,o2,o6,o14,o36,o1,o2,o6,o14,o81,o1,o28,.v none (.ldn 13 x0) 0,.c none p157 [x17,x12,x7,x2,x0],o0,o7,o8,.fl 308 z308,.e none (.st 10 x0 x2),o9] [(p7,2),(p8,0)]) (.seq (.block 0 (S [o11,.v none (.ar .eql .o x0 (.c (.i .i64 11))) 0,o0] [(p40,0)] (.cond t40 (S [.v none (.mv (.c (.i .i64 11))) 0] [(p9,0)] (.seq (.drw [0,1,2,3,4,5,6,7,8,9,10,11,12] [.v none (.fa 13 t4) 0,o30,o29,o2,o28,o14,o1,o29,.v none (.bld z81 [(0,1,(.c (.i .i64 3))),(2,1,x1),(5,1,x0)]) 0,.c none p25 [x5,x0],.v none (.bld z34 [(0,1,x8),(5,1,x7),(4,1,x0)]) 0,o91,o3] [(p6,0)]) .ret)) (S [o11,o18,o0] [(p54,0)] (.cond t54 (S [o48,o11,o102,o4] [(p6,0)] .ret) .skip))))) (.seq (.seq (.drw [0,1,2,3,4,5,6,7,8,9] [o2,o6,o147,o1,o127,o1,.v none (.fa 6 t7) 0,o1,.c none p158 [x4,x2,x0],o0] [(p10,0)]) (S [o12,o18] [(p69,0)] (.cond t69 (S [o48,o12,o102,o4] [(p6,0)] .ret) .skip))) (.seq (.drw [0,1,2,3,4,5,6,7,8,9,10,11,12,13,14,15,16,17,18,19,20,21,22,23] [o2,o6,o20,o1,.v none (.ldn 10 t7) 0,o2,o6,o67,o1,o28,o14,o1,.v none (.fa 15 t4) 0,o47,.c none p159 [x10,x9,x5,x2,x0],o0,o7,o8,o33,.fl 81 z81,.fl 126 z126,.e none (.st 13 x1 x4),.e none (.st 4 x1 x4),o131] [(p8,0),(p11,4),(p12,3)]) (.seq (S [o11,o18] [(p92,0)] (.cond t92 (S [o48,o11,o102,o4] [(p6,0)] .ret) .skip)) (.seq (.drw [0,1,2,3,4,5,6,7,8,9,10,11] [o2,o6,o67,o30,o28,o14,o30,.v none (.fa 14 t4) 0,o30,.v none (.bld z112 [(0,1,x5),(1,1,x2),(2,1,x0)]) 0,o89,o88] [(p13,1)]) (.seq (S [o2,o127,o1,.v none (.ldn 3 t13) 0,.v none (.ldn 4 t12) 0,.c none p160 [x4,x2,x1,x0,(.c (.f p161 [] []))],o0] [(p14,0)] (S [o24,o18] [(p112,0)] (.cond t112 (S [o48,o24,o102,o4] [(p6,0)] .ret) .skip))) (.seq (.drw [0,1,2,3,4,5,6,7,8] [o2,o6,o147,o1,o127,o1,.v none (.fa 6 t7) 0,o1,.c none p162 [x4,x2,x0]] []) (S [o2,o6,o67,o1,o73,o159,o67,o74] [] (.seq (.drw [0,1,2,3,4,5,6,7,8,9] [o127,o30,.v none (.fa 0 t12) 0,o30,o2,.v none (.ldn 13 t11) 0,.c none p25 [x1,x0],.v none (.bld z34 [(0,1,x5),(3,1,x3),(4,1,x0)]) 0,o91,o3] [(p6,0)]) .ret))))))))))),2596150905147787541938726326255611,2⟩
def k126:CF:=⟨[.c p5 6 true,.t p6],(S [.e none (.box 198 t2),o94,o3] [(p4,2),(p5,1),(p6,0)] (.seq (.drw [0,1,2,3,4,5,6,7,8,9,10,11,12,13] [o2,o6,o87,o30,o28,o36,o30,.v none (.lk .u64 (.a [(.i .i64 0),(.i .i64 0),(.i .i64 0),(.i .i64 0),(.i .u64 0),(.i .i64 0),(.i .i64 0),(.s 0 0),(.i .u64 0)]) x3 x0 true) 1,o0,o7,o8,.e none (.al 89 z89),o272,o9] [(p7,2),(p8,0)]) (.seq (S [o11,o25] [(p24,0)] (.cond t24 (S [o48,o91,o109] [(p6,0)] .ret) .skip)) (.seq (.drw [0,1,2,3,4,5,6,7,8,9,10,11,12,13,14,15,16,17,18,19] [o2,o6,o20,o1,o2,o6,o14,o20,o47,.v none (.fa 1 t7) 0,.v none (.ldn 7 x0) 0,o28,.v none (.ldn 13 x0) 0,.c none p163 [x9,x4,x2,x0],o0,o7,o8,.fl 126 z126,o76,o9] [(p9,2),(p10,0)]) (.seq (S [o12,o18] [(p44,0)] (.cond t44 (S [o48,o12,o102,o4] [(p6,0)] .ret) .skip)) (.seq (S [o2,o128,o1,o28,o36,o1,o28,o14,o1,.v none (.fa 14 t4) 0,o1,.v none (.bld z112 [(0,1,x5),(1,1,x2),(2,1,x0)]) 0,.v none (.ldn 4 t9) 0,.c none p160 [x12,x10,x1,x0,(.c (.f p164 [] []))],o0] [(p11,0)] (S [o17,o18] [(p62,0)] (.cond t62 (S [o48,o17,o102,o4] [(p6,0)] .ret) .skip))) (.seq (.drw [0,1,2,3,4,5,6,7] [o2,o6,o87,o1,o28,o36,o1,.e none (.del .u64 x3 x0)] []) (S [o128,o1,o72,o1,.v none (.bld z34 [(0,1,x2),(3,1,x0)]) 0,o91,o3] [(p6,0)] .ret)))))))),2305851805315106811,2⟩
def k128:CF:=⟨[.c p5 6 true,.t p6],(S [.e none (.box 198 t2),o94,o3] [(p4,2),(p5,1),(p6,0)] (.seq (.drw [0,1,2,3,4,5,6,7,8,9,10,11,12] [o2,o6,o78,o1,o28,o36,o1,.v none (.lk .u64 .pn x3 x0 true) 0,o0,o7,o8,o4,o4] [(p7,1),(p8,0)]) (.seq (S [o11,o25] [(p24,0)] (.cond t24 (S [o48,o91,o109] [(p6,0)] .ret) .skip)) (S [o16,o28,o87,o1,o43,o28,o78,o1,o43,o28,o147,o1,.c none p165 [x11,x7,x3,x0],o0,o7,o8,o4,o4] [(p9,1),(p10,0)] (.seq (S [o12,o18] [(p43,0)] (.cond t43 (S [o48,o12,o102,o4] [(p6,0)] .ret) .skip)) (S [o2,o28,o36,o1,.c none p166 [x3,x0],o0] [(p11,0)] (.seq (.drw [0,1,2,3,4,5,6,7,8,9,10,11,12,13,14,15,16,17,18,19,20,21,22,23] [o2,o6,o70,o30,o17,o45,o30,o2,o6,o70,o1,o17,o45,o1,o6,o14,o165,o28,o36,o1,.c none p167 [x3,x0],.v none (.nc x14) 0,o14,o272] []) (S [o17,o29,o16,.c none p36 [x0],.v none (.fld 0 1 false x0) 0,.v none (.bld z34 [(0,1,x4),(1,1,x3),(2,1,(.c (.b true))),(3,1,x0)]) 0,o91,o3] [(p6,0)] .ret)))))))),4398054901755,2⟩
def k129:CF:=⟨[.c p5 2 true,.t p6],(S [.e none (.box 201 t1),o227,o3] [(p3,2),(p5,1),(p6,0)] (.seq (S [o187,o1,o83,o0,.v (some (.l 0,false)) (.fa 1 t3) 0,o57,.v (some (.l 2,false)) (.ar .geq .o x0 (.c (.i .i64 1000))) 0,o63] [(p16,0)] (.cond t16 (S [o188,o121,.v none (.mv (.c (.i .i64 13))) 0] [(p6,0)] .ret) .skip)) (S [o5,o123,o1,.c none p131 [x2,x0,(.c (.i .u64 2))],o0,o7,o8,o4,o4] [(p7,1),(p8,0)] (.seq (S [o11,o18] [(p26,0)] (.cond t26 (S [o188,o11,.e none (.st 2 t5 x1),o4] [(p6,0)] .ret) .skip)) (S [o16,o187,o1,o44,.v none (.bld z201 [(0,1,x3),(1,1,x0)]) 0,o121,o3] [(p6,0)] .ret))))),33587447,2⟩
def k130:CF:=⟨[.t p7,.t p8],(S [o3,o3] [(p7,1),(p8,0)] (S [o2,o5,o10,.v none (.bld z94 [(0,1,(.c (.i .i64 9))),(3,1,x1),(2,1,x0)]) 0,.c none p26 [x3,x0],o7,o8,o4,o4] [(p7,1),(p8,0)] .ret)),199,3⟩
def k131:CF:=⟨[.t p5],(S [o13] [(p5,0)] (S [o2,o5,o80,o0,o7,o8,o66,o56,o9] [(p7,0)] (S [o16,o0] [(p5,0)] .ret))),83,2⟩
def k132:CF:=⟨[.t p11,.t p12],(S [o3,o3] [(p11,1),(p12,0)] (S [o2,o5,o10,o19,o27,.v none (.bld z94 [(0,1,(.c (.i .i64 10))),(3,1,x3),(2,1,x2),(4,1,x1),(5,1,x0)]) 0,.c none p26 [x5,x0],o7,o8,o4,o4] [(p11,1),(p12,0)] .ret)),3103,5⟩
def k133:CF:=⟨[.t p7],(S [o92] [(p7,0)] (.seq (S [o2,o6,o36,o1,o18] [(p15,0)] (.cond t15 (S [o92] [(p7,0)] .ret) .skip)) (.seq (.drw [0,1,2,3,4,5,6,7,8,9,10,11,12,13,14,15] [o2,o6,o20,o1,o2,o6,o14,o1,.c none p72 [x4,x0],o0,o7,o8,o33,o9,o9,o9] [(p8,2),(p9,1),(p10,0)]) (.seq (S [o12,o54,o0,o61,.v (some (.l 1,true)) (.mv t2) 0,.v (some (.l 2,true)) (.ar .gtr .o x1 x0) 0,o60] [(p35,0)] (.cond t35 (.ops [o10,o0] [(p10,0)]) .skip)) (.seq (S [o12,o18] [(p38,0)] (.cond t38 (S [o2,o12,o68,o36,o74] [] (S [o92] [(p7,0)] .ret)) .skip)) (S [o2,o29,o68,o14,o74] [] (S [o11,o0] [(p7,0)] .ret))))))),154618840007,3⟩
def k134:CF:=⟨[.t p5],(S [o21] [(p5,0)] (.seq (S [o2,o6,o36,o1,o18] [(p13,0)] (.cond t13 (S [o21] [(p5,0)] .ret) .skip)) (.seq (.drw [0,1,2,3,4,5,6,7,8,9,10,11,12,13,14,15,16] [o2,o6,o20,o1,o2,o6,o14,o1,o5,.c none p121 [x5,x1,x0],o0,o7,o8,o33,o9,o9,o9] [(p6,2),(p7,1),(p8,0)]) (S [o2,o2,o16,o11,.v none (.nc x3) 0,o14,o273,.v none (.nc x5) 0,o36,o274] [] (S [o15,o0] [(p5,0)] .ret))))),4339,2⟩
def k135:CF:=⟨[.c p3 7 true],(S [.e none (.al 47 z47)] [(p3,0)] (S [o2,.c none p134 [x0,(.c (.i .u64 9)),(.c (.i .i64 15))],o43,.v none (.bld z47 [(0,1,x0)]) 0,.e none (.al 47 z47),o268] [(p4,1)] (.seq (S [o2,o6,o36,o1,o18] [(p16,0)] (.cond t16 (S [o216,.e none (.st 7 t3 x0)] [] .ret) .skip)) (.seq (S [o28,o1,.v none (.iar 10 1 (.c (.g 0 0)) x0) 0,.v none (.ldg 0 fields0 x0) 0,.e none (.rgs x0)] [(p22,0)] (.block 0 (.loop (S [.e none (.nxs t22),o7] [(p23,1),(p24,0)] (.seq (.cond t24 .skip (.exit 0)) (.block 1 (S [.v none (.ext t23 2) 0,o0] [(p6,0)] (S [o15,.c none p168 [t4,x0],o0] [(p7,0)] (.block 2 (S [o16,o99,o0] [(p31,0)] (.cond t31 (.ops [o16,o2,.c none p134 [x0,(.c (.i .u64 1048576)),(.c (.i .i64 15))],o43,.v none (.nc x3) 0,o26] []) (S [o15,.v none (.ar .eql .o x0 (.c (.i .i32 78))) 0,o0] [(p39,0)] (.cond t39 (.ops [o2,.c none p134 [x0,(.c (.i .u64 18446744073709551615)),(.c (.i .i64 0))],.v none (.fa 5 t4) 0,o26] []) (.ops [o2,.c none p135 [x0,(.c (.i .i64 100))],.v none (.fa 6 t4) 0,o26] [])))))))))))))) (S [o216,.e none (.st 7 t3 x0)] [] .ret))))),275966361709,1⟩
def k136:CF:=⟨[.t p7],(S [.e none (.box 34 t1),o21] [(p4,1),(p7,0)] (S [o21] [(p8,0)] (.seq (S [o10,o5,o28,o1,o79,o1,.v none (.fa 5 t4) 0,o1,o97,o1,o23,.e none (.bsl 3 1 6 [(.i .i64 0),(.i .i64 0),(.i .i64 0),(.i .i64 0),(.i .i64 0),(.i .i64 0)] [(0,1,x10),(1,1,x9),(2,1,x7),(3,1,x5),(4,1,x3),(5,1,x0)]),o23,o3] [(p24,2),(p25,1),(p26,0)] (.block 0 (.loop (S [.v none (.ar .lss .o t26 t25) 0] [(p27,0)] (.seq (.cond t27 .skip (.exit 0)) (.seq (.block 1 (S [.v none (.ia 1 t24 t26) 0,o1,o0] [(p10,0)] (.ops [o11,o12,.c none p169 [x0],.v none (.ar .add .s x0 (.c (.s 1 32))) 0,o251,o0] [(p8,0)]))) (.ops [.v none (.ar .add .o t26 (.c (.i .i64 1))) 0,o0] [(p26,0)]))))))) (S [o11,o46,o1,.c none p87 [x0],o251,o0] [(p8,0)] (.seq (S [o65,o1,.e none (.cvb 5 x0),o23,o3] [(p43,2),(p44,1),(p45,0)] (.block 2 (.loop (S [.v none (.ar .lss .o t45 t44) 0] [(p46,0)] (.seq (.cond t46 .skip (.exit 2)) (.seq (.block 3 (S [.v none (.ia 1 t43 t45) 0,o1,o0] [(p12,0)] (.drw [0,1,2,3,4,5,6,7,8,9,10] [o11,o31,.v none (.ar .shr .o x0 (.c (.i .u64 4))) 0,.v none (.ixs (.c (.s 16 64058384521018188869745042196707698022)) x0) 0,o31,.v none (.ar .and .o x0 (.c (.i .u8 15))) 0,.v none (.ixs (.c (.s 16 64058384521018188869745042196707698022)) x0) 0,.e none (.bsl 5 1 2 [(.i .u8 0),(.i .u8 0)] [(0,1,x3),(1,1,x0)]),o122,.v none (.ar .add .s x8 x0) 0,o0] [(p8,0)]))) (.ops [.v none (.ar .add .o t45 (.c (.i .i64 1))) 0,o0] [(p45,0)]))))))) (S [o11,.v none (.ar .add .s x0 (.c (.s 1 10))) 0,o0] [(p7,0)] .ret)))))),65970823498447,3⟩
def k137:CF:=⟨[.t p9],(S [o3] [(p9,0)] (S [o22] [(p10,0)] (.seq (S [o19,o23,o3] [(p21,2),(p22,1),(p23,0)] (.block 0 (.loop (S [.v none (.ar .lss .o t23 t22) 0] [(p24,0)] (.seq (.cond t24 .skip (.exit 0)) (.seq (.block 1 (S [.v none (.ia 1 t21 t23) 0,o1,o0] [(p12,0)] (S [o31,.c none p27 [x0],o0,o7,o8,o111,o76,o9] [(p13,2)] (S [o12,.v none (.ldn 4 t13) 0,.e none (.bsl 96 4 1 [(.i .u64 0),(.i .i64 0),(.i .i64 0),(.s 0 0)] [(0,4,x0)]),.e none (.ap 96 4 40 x2 x0),o0] [(p10,0)] (.ops [o2,o2,o6,o141,o1,o5,o10,o31,.v none (.bld z291 [(0,1,x2),(1,1,x1),(2,1,x0)]) 0,.e none (.bsl 291 3 1 [(.i .i64 0),(.i .i64 0),(.s 0 0)] [(0,3,x0)]),.e none (.ap 291 3 32 x5 x0),.v none (.nc x10) 0,o141,o74] []))))) (.ops [.v none (.ar .add .o t23 (.c (.i .i64 1))) 0,o0] [(p23,0)]))))))) (S [o12,.c none p140 [x0],o0,o7,o8,o4,o4] [(p15,1)] (S [o32,.c none p28 [x0],o0,o7,o8,o62,o240,o9] [(p17,2)] (.seq (S [o163,.c none p170 [x0],o23,o3] [(p61,2),(p62,1),(p63,0)] (.block 2 (.loop (S [.v none (.ar .lss .o t63 t62) 0] [(p64,0)] (.seq (.cond t64 .skip (.exit 2)) (.seq (.block 3 (S [.v none (.ia 1 t61 t63) 0,o1,o0] [(p20,0)] (.ops [o2,o6,o67,o1,o151,.e none (.mu .i64 x1 x0 (.c (.b true)))] []))) (.ops [.v none (.ar .add .o t63 (.c (.i .i64 1))) 0,o0] [(p63,0)]))))))) (S [o19,o23,o0] [(p9,0)] .ret))))))),17293822569119046415,4⟩
def k139:CF:=⟨[.t p3,.t p4],(S [o21,o3] [(p3,1),(p4,0)] (.seq (S [o2,o23,o183,o0,o58,.v (some (.l 1,false)) (.ln .l x0) 0,.v (some (.l 2,false)) (.ar .gtr .o x0 (.c (.i .i64 16))) 0,o63] [(p15,0)] (.cond t15 (S [o21,o82] [(p3,1),(p4,0)] .ret) .skip)) (S [o21] [(p5,0)] (.seq (S [o2,o23,o3] [(p16,2),(p17,1),(p18,0)] (.block 0 (.loop (S [.v none (.ar .lss .o t18 t17) 0] [(p19,0)] (.seq (.cond t19 .skip (.exit 0)) (.seq (.block 1 (S [o133,.v none (.ia 4 t16 t18) 0,o55,o111,o42,.e none (.st 4 x1 x2)] [(p6,1),(p7,2)] (.seq (.seq (.drw [0,1,2,3,4,5,6,7,8,9,10,11,12,13,14,15,16,17,18,19,20,21,22,23,24] [.v none (.ldn 4 t7) 0,.c none p73 [x0],o25,o0,.v (some (.l 0,false)) (.fa 0 t7) 0,o57,.v (some (.l 2,false)) (.mv t1) 0,.v (some (.l 3,false)) (.ia 4 x0 (.c (.i .i64 0))) 0,.v (some (.l 4,false)) (.fa 0 x0) 0,o181,.v (some (.l 6,false)) (.ar .neq .o x4 x0) 0,.v none (.pick x7 (.c (.b true)) x0) 0,o0,.v (some (.l 0,false)) (.fa 2 t7) 0,o57,.v (some (.l 2,false)) (.mv t1) 0,.v (some (.l 3,false)) (.ln .l x0) 0,.v (some (.l 4,false)) (.ar .neq .o x2 x0) 0,o222,o0,.v (some (.l 0,false)) (.fa 1 t7) 0,o57,.v (some (.l 2,false)) (.mv t6) 0,o228,o71] [(p47,0)]) (.cond t47 (S [o21,o82] [(p3,1),(p4,0)] .ret) .skip)) (.ops [o27,.v none (.fa 3 t7) 0,o1,.v none (.ar .add .s x2 x0) 0,o0] [(p5,0)])))) (.ops [o275,o0] [(p18,0)]))))))) (.seq (S [o27,o64,o245] [(p55,0)] (.cond t55 (S [o21,o142] [(p3,1),(p4,0)] .ret) .skip)) (S [o27,o0,o3] [(p3,1),(p4,0)] .ret)))))),18084767254167677,1⟩
def k144:CF:=⟨[.t p3],(S [o22] [(p3,0)] (S [o22] [(p4,0)] (.seq (S [o2,o110] [(p7,0)] (.block 0 (.loop (S [.e none (.nxt t7),o7] [(p9,0)] (.seq (.cond t9 .skip (.exit 0)) (.block 1 (S [.e none (.ent t7),o7,o0] [(p5,0)] (.ops [o19,o27,.e none (.bsl 30 1 1 [(.i .u64 0)] [(0,1,x0)]),.e none (.ap 30 1 8 x2 x0),o0] [(p4,0)])))))))) (S [o19,.c none p176 [x0]] [] (S [o19,o0] [(p3,0)] .ret))))),349,1⟩
def k145:CF:=⟨[.t p3],(S [o22] [(p3,0)] (S [o22] [(p4,0)] (.seq (S [o2,o110] [(p7,0)] (.block 0 (.loop (S [.e none (.nxt t7),o7] [(p9,0)] (.seq (.cond t9 .skip (.exit 0)) (.block 1 (S [.e none (.ent t7),o7,o0] [(p5,0)] (.ops [o19,o27,.e none (.bsl 30 1 1 [(.i .u64 0)] [(0,1,x0)]),.e none (.ap 30 1 8 x2 x0),o0] [(p4,0)])))))))) (S [o19,.c none p176 [x0]] [] (S [o19,o0] [(p3,0)] .ret))))),349,1⟩
def k147:CF:=⟨[.c p5 6 true,.t p6],(S [o66,o13] [(p5,1),(p6,0)] (.seq (S [o5,o183,o0,o84,o224,.c (some (.l 2,false)) p10 [x0],o262,o71] [(p14,0)] (.cond t14 (S [.v none (.bld z94 []) 0,o91,o13] [(p6,0)] .ret) .skip)) (S [o2,o6,o20,o1,o5,.v none (.ia 6 x1 x0) 0,o152,o91,o49] [(p6,0)] .ret))),8243,2⟩
def k148:CF:=⟨[.t p9,.t p10],(S [.e none (.box 140 t3),o13,o3] [(p7,2),(p9,1),(p10,0)] (S [o2,o5,.v none (.ldn 2 t7) 0,.c none p178 [x2,x1,x0],o0,o7,o8,o4,o4] [(p11,1),(p12,0)] (.seq (S [o31,o25] [(p21,0)] (.cond t21 (S [o13,o39] [(p9,1),(p10,0)] .ret) .skip)) (.seq (S [o19,o183,o0,.v (some (.l 0,false)) (.mv t4) 0,o224,.c (some (.l 2,false)) p10 [x0],o262,o71] [(p29,0)] (.cond t29 (S [o13,o109] [(p9,1),(p10,0)] .ret) .skip)) (S [o17,.c none p179 [x0]] [] (S [o17,o6,o14,o1,o19,o45,o1,o0,o3] [(p9,1),(p10,0)] .ret)))))),269487951,4⟩
def k149:CF:=⟨[.t p3],(S [o22] [(p3,0)] (S [o22] [(p4,0)] (.seq (S [o2,o6,o67,o1,o110] [(p10,0)] (.block 0 (.loop (S [.e none (.nxt t10),o7] [(p12,0)] (.seq (.cond t12 .skip (.exit 0)) (.block 1 (S [.e none (.ent t10),o7,o0] [(p5,0)] (.ops [o19,o27,o198,.e none (.ap 3 1 8 x2 x0),o0] [(p4,0)])))))))) (S [o19,.c none p180 [x0]] [] (S [o19,o0] [(p3,0)] .ret))))),2589,1⟩
def k150:CF:=⟨[.t p7,.t p8],(S [o3,o3] [(p7,1),(p8,0)] (S [o2,o5,o10,.v none (.bld z94 [(0,1,(.c (.i .i64 8))),(3,1,x1),(4,1,x0)]) 0,.c none p26 [x3,x0],o7,o8,o4,o4] [(p7,1),(p8,0)] .ret)),199,3⟩
def k151:CF:=⟨[.t p7,.t p8,.t p9],(S [.e none (.box 22 t1),o3,o3,o3] [(p4,3),(p7,2),(p8,1),(p9,0)] (S [o221,o5,o10,.c none p151 [x2,x1,x0],o0,o7,o8,.e none (.al 3 z3),o116,.e none (.st 1 x1 x3),.e none (.st 1 x1 x3)] [(p10,3),(p11,2)] (.seq (S [o189,o18] [(p23,0)] (.cond t23 (.seq (.drw [0,1,2,3] [o189,o3,o3,o9] [(p7,2),(p8,1),(p9,0)]) .ret) .skip)) (S [.v none (.mkf p181 [] [t11,t4,t10]) 0,o0] [(p12,0)] (S [o31,.cv none x0 [(.c (.i .u64 1))],o0] [(p13,0)] (S [o31,.cv none x0 [(.c (.i .u64 2))],o0] [(p14,0)] (.seq (S [o189,o18] [(p31,0)] (.cond t31 (.seq (.drw [0,1,2,3] [o189,o3,o3,o9] [(p7,2),(p8,1),(p9,0)]) .ret) .skip)) (S [o37,o24,o4,o4,o3] [(p7,2),(p8,1),(p9,0)] .ret)))))))),1077952463,3⟩
def k152:CF:=⟨[.t p5],(S [o13] [(p5,0)] (.seq (S [o5,o23,o3] [(p10,2),(p11,1),(p12,0)] (.block 0 (.loop (S [.v none (.ar .lss .o t12 t11) 0] [(p13,0)] (.seq (.cond t13 .skip (.exit 0)) (.seq (.block 1 (S [.v none (.ia 1 t10 t12) 0,o1,o0] [(p7,0)] (S [o2,o16,o80,o0,o7,o8,o66,o56,o9] [(p9,0)] (S [o29,o25] [(p23,0)] (.cond t23 (S [o13] [(p5,0)] .ret) .skip))))) (.ops [o206,o0] [(p12,0)]))))))) (S [o49] [(p5,0)] .ret))),4202323,2⟩
def k153:CF:=⟨[.t p3],(S [o125,o13] [(p2,1),(p3,0)] (S [.v none (.ldn 4 t2) 0,o98,o1,o210,o1,o211,o1,.v none (.bld z83 [(0,1,x4),(2,1,x2),(3,1,x0)]) 0,.v none (.ar .neq (.a z83) x7 x0) 0,o0,o263,o50,.v (some (.l 2,true)) (.ar .lss .o x0 (.c (.i .u64 18446744073709551615))) 0,o60,o0] [(p3,0)] .ret)),7,1⟩
def k154:CF:=⟨[.c p11 4 true,.t p12,.t p13],(S [o125,o101,o3,o3] [(p6,3),(p11,2),(p12,1),(p13,0)] (.block 999 (.seq (.block 1000 (.seq (S [o101] [(p14,0)] (.seq (S [o27,o18] [(p16,0)] (.cond t16 (.exit 1000) .skip)) (S [o154,o1,o73,o154,o26] [] (.seq (S [.v none (.ldn 4 t6) 0,o5,o10,.c none p108 [x2,x1,x0],o0,o7,o8,.e none (.st 4 t14 x1),o4] [(p5,0)] (S [o27,o54] [(p29,0)] (.cond t29 (S [.v none (.ldn 4 t14) 0,o19,o276,o4,o3] [(p12,1),(p13,0)] .ret) .skip))) (.seq .skip (S [o124,o27,o276,o3,o9] [(p12,1),(p13,0)] .ret)))))) (.exit 999))) (.seq .skip (S [o124,o27,o276,o3,o9] [(p12,1),(p13,0)] .ret))))),268483647,5⟩
def k156:CF:=⟨[.c p11 10 true,.c p12 1 false],(S [o204,.e none (.box 81 t5),.e none (.al 308 z308),o116] [(p7,3),(p10,2),(p11,1),(p12,0)] (S [.df t12] [] (S [.v none (.fa 0 t10) 0,o1,o90,o0,.v (some (.l 0,true)) (.ldn 13 t10) 0,.c (some (.l 1,true)) p68 [x0],o40,o118] [] (S [o19,o117,o1,.c none p182 [x2,x0],o0,o7,o8,o4,.e none (.st 1 t12 x1)] [(p13,1)] (S [.v none (.ld t12) 0,o59] [] (S [o2,.v none (.ldn 2 t7) 0,.c none p51 [x1,x0],o0,o7,o8,o115,o135,.e none (.st 1 t12 x2)] [(p14,2)] (S [.v none (.ld t12) 0,o59] [] (S [o2,o117,o1,o139,o1,.v none (.ldn 2 t14) 0,.c none p58 [x5,x3,x1,x0],o0] [(p15,0)] (S [o32,.v none (.fa 6 t10) 0,o1,o95] [] (S [o32,.v none (.fa 7 t10) 0,o1,o95] [] (S [o32,o32,o128,o1,.v none (.fa 6 t10) 0,o1,o157,o104] [] (S [o32,.v none (.fa 8 t10) 0,o1,o95] [] (S [o32,o32,.v none (.fa 1 t7) 0,o1,.v none (.fa 8 t10) 0,o1,.c none p183 [x4,x2,x0],o104] [] (S [o37,.v none (.fa 6 t10) 0,o1,.v none (.fa 7 t10) 0,o1,.v none (.bld z308 [(5,1,x4),(7,1,x2),(8,1,x0)]) 0,.e none (.al 308 z308),.e none (.st 10 x0 x1)] [(p16,1)] (S [o32,.v none (.fa 9 t10) 0,o1,o277,.v none (.fa 9 t16) 0,o26] [] (S [o10,.v none (.fa 9 t16) 0,o1,.c none p185 [x2,x0],.v none (.fa 4 t16) 0,o26] [] (S [o32,o32,o128,o1,.v none (.fa 9 t16) 0,o1,o157,o104] [] (.seq (.drw [0,1,2,3,4,5,6,7,8,9,10] [o32,o10,.v none (.fa 4 t16) 0,o1,o139,o1,.v none (.ia 4 x4 x2) 0,o36,.v none (.iar 2 1 x0 x2) 0,o1,.c none p62 [x9,x0]] []) (S [o32,o32,.v none (.fa 10 t10) 0,o1,o277,.c none p186 [x4,x0],o0] [(p17,0)] (S [o132,.c none p72 [x0,(.c (.i .i64 0))],o0,o7,o8,o33,o9,o9,o9] [(p18,2),(p19,1),(p20,0)] (S [o151,o54,o0,.v (some (.l 0,true)) (.mv t19) 0,.v (some (.l 1,true)) (.mv t17) 0,o264,.v (some (.l 3,true)) (.ar .eql .o x2 x0) 0,o155,o118] [] (.seq (.drw [0,1,2,3,4,5,6,7,8] [o133,o32,o6,o14,.v none (.ldn 4 x0) 1,.v none (.fa 6 t16) 0,o274,.v none (.fa 0 t16) 0,o260] []) (S [.v none (.ldn 10 t16) 0,.e none (.st 10 t11 x0),.e none (.st 1 t12 (.c (.i .i64 0)))] [] .ret))))))))))))))))))))))),1048159,5⟩
def k157:CF:=⟨[.t p7],(S [.e none (.box 30 t3),o3] [(p6,1),(p7,0)] (S [o2,o5,.v none (.mkf p188 [] [t6]) 0,.c none p187 [x2,x1,x0],o0] [(p7,0)] .ret)),103,3⟩
def k158:CF:=⟨[.c p11 13 true,.c p12 4 true,.c p13 1 false],(S [.e none (.box 308 t2),.e none (.box 62 t5),o62,.e none (.al 126 z126),o116] [(p7,4),(p10,3),(p11,2),(p12,1),(p13,0)] (S [.df t13] [] (S [o2,o128,o55,.v none (.bld z171 [(0,1,x2),(1,4,x0)]) 0,o218,o0] [(p14,0)] (S [o10,o19,.v none (.bld z81 [(0,1,(.c (.i .i64 2))),(1,1,x1),(2,1,x0)]) 0,o62,o162] [(p15,1)] (S [o24,o278,o1,.c none p59 [x2,x0],.v none (.fa 6 t15) 0,o26] [] (S [o24,.v none (.fa 6 t15) 0,o1,o95] [] (S [o24,o24,o278,o1,.v none (.fa 7 t7) 0,o1,o157,o104] [] (S [o24,o24,o278,o1,.v none (.fa 9 t7) 0,o1,o157,o104] [] (S [o24,.v none (.fa 8 t7) 0,o1,.v none (.iar 2 1 t10 (.c (.i .i64 1))) 0,o1,.c none p64 [x4,x2,x0],.v none (.fa 8 t15) 0,o26] [] (S [o24,o24,.v none (.fa 5 t7) 0,o1,o219,o220,o122,.c none p66 [x5,x0],.c none p65 [x7,x0],.v none (.fa 9 t15) 0,o26] [] (S [o24,.c none p189 [x0],o0,o7,o8,o4,o4] [(p16,1),(p17,0)] (S [o197,.c none p68 [x0],o118] [] (.seq (.drw [0,1,2,3,4,5,6,7,8,9,10,11,12,13,14,15,16,17,18,19,20] [o197,o24,o6,o14,o36,o93,o132,o38,.v none (.fa 5 t7) 0,.v none (.ld x0) 5,.e none (.st 13 t11 x9),.e none (.st 4 t12 (.c (.a [(.i .i64 0),(.i .i64 0),(.i .i64 0),(.i .i64 0)]))),.v none (.fa 0 t12) 0,.e none (.st 1 x0 x7),.v none (.fa 1 t12) 0,o279,.v none (.fa 2 t12) 0,o140,.v none (.fa 3 t12) 0,o140,.e none (.st 1 t13 (.c (.i .i64 0)))] []) .ret))))))))))))),130655,5⟩
def k159:CF:=⟨[.t p11],(S [.e none (.box 112 t3),.e none (.box 126 t4),o3] [(p8,2),(p9,1),(p11,0)] (.seq (.drw [0,1,2,3,4,5,6,7,8,9,10] [o2,o6,o20,o1,.v none (.ldn 4 t9) 0,.c none p190 [x1,x0],o0,o7,o8,o4,o4] [(p12,1),(p13,0)]) (.seq (S [o37,o18] [(p24,0)] (.cond t24 (S [o37,o0] [(p11,0)] .ret) .skip)) (.seq (.drw [0,1,2,3,4,5,6,7,8,9,10,11,12,13,14,15,16,17,18,19,20,21,22] [o2,o6,o70,o30,o5,o45,o30,o27,o2,o6,o70,o1,o5,o45,o1,o6,o14,o165,o213,.cv none x11 [x1,x0],.v none (.nc x13) 0,o14,o272] []) (.seq (.drw [0,1,2,3,4,5,6,7] [o2,o6,o78,o1,o113,o1,o31,.e none (.mu .u64 x3 x1 x0)] []) (S [o2,.c none p175 [x0]] [] (S [o3] [(p11,0)] .ret))))))),8396191,5⟩
def k160:CF:=⟨[.c p5 9 true],(S [o148,.e none (.box 112 t2),.e none (.al 120 z120)] [(p3,2),(p4,1),(p5,0)] (S [.v none (.ldn 3 t4) 0,o229,o88] [] (S [o230,o231] [] .ret))),31,2⟩
def k161:CF:=⟨[.t p7],(S [.e none (.box 30 t3),o3] [(p6,1),(p7,0)] (.seq (S [o2,o5,.v none (.ld t6) 0,.c none p158 [x2,x1,x0],o0] [(p8,0)] (S [o11,o18] [(p14,0)] (.cond t14 (S [o11,o0] [(p7,0)] .ret) .skip))) (S [o2,o5,.v none (.mkf p191 [] [t6]) 0,.c none p187 [x2,x1,x0],o0] [(p7,0)] .ret))),8423,3⟩
end
section
open KK
set_option maxRecDepth 100000
def k162:CF:=⟨[.c p9 4 true,.c p10 1 false],(S [o204,.e none (.box 85 t3),.e none (.box 81 t4),.e none (.al 126 z126),o116] [(p6,4),(p7,3),(p8,2),(p9,1),(p10,0)] (S [.df t10] [] (S [o113,o1,o144,o0,.v (some (.l 0,true)) (.ldn 13 t8) 0,.c (some (.l 1,true)) p68 [x0],o40,o118] [] (S [o2,o128,o55,.v none (.bld z171 [(0,1,x2),(1,4,x0)]) 0,o218,o0] [(p11,0)] (S [o17,.v none (.fa 6 t8) 0,o1,o95] [] (S [o17,o17,o127,o1,.v none (.fa 6 t8) 0,o1,o157,o104] [] (S [o17,o17,o100,o1,.v none (.fa 6 t8) 0,o1,o157,o104] [] (S [o17,.v none (.fa 8 t8) 0,o1,o95] [] (S [o17,o17,.v none (.fa 5 t7) 0,o1,.v none (.fa 8 t8) 0,o1,.c none p183 [x4,x2,x0],o104] [] (S [o17,o17,.v none (.fa 9 t8) 0,o1,o277,.c none p186 [x4,x0],o0] [(p12,0)] (S [o31,o64,o90,o118] [] (.seq (.drw [0,1,2,3,4,5,6] [.v none (.fa 6 t7) 0,o1,o31,o280,.c none p192 [x2,x0],o136,.c none p57 [x0,(.c (.i .i64 11))]] []) (S [o17,.c none p189 [x0],o0,o7,o8,o4,o4] [(p13,1),(p14,0)] (.seq (.drw [0,1,2,3,4,5,6,7,8,9,10,11,12,13,14,15,16,17,18,19] [o17,o6,o14,o36,o30,o37,o24,o31,o280,o43,.e none (.st 4 t9 (.c (.a [(.i .i64 0),(.i .i64 0),(.i .i64 0),(.i .i64 0)]))),o72,.e none (.st 1 x0 x7),.v none (.fa 1 t9) 0,o279,o96,o140,.v none (.fa 3 t9) 0,o279,.e none (.st 1 t10 (.c (.i .i64 0)))] []) .ret)))))))))))))),16367,4⟩
def k163:CF:=⟨[.c p5 9 true],(S [o148,.e none (.box 112 t2),.e none (.al 120 z120)] [(p3,2),(p4,1),(p5,0)] (S [.v none (.fa 3 t3) 0,o77,o89,o88] [(p6,1)] (.seq (S [o229,o77,.c none p84 [x0]] [(p11,0)] (.cond t11 (.ops [o229,o77,.e none (.st 3 t6 x0)] []) .skip)) (S [o160,.v none (.ldn 3 t4) 0,.v none (.bld z120 [(0,3,x1),(3,3,x0)]) 0,o231] [] .ret)))),1087,2⟩
def k164:CF:=⟨[.t p9,.t p10],(S [o21,o3] [(p9,1),(p10,0)] (.seq (S [o2,o6,o86,o1,o19,o80,o0,o7,o8,o66,o56,o9] [(p12,0)] (S [o31,o25,o0,o84,.v (some (.l 1,false)) (.ar .lss .o x0 (.c (.i .i64 0))) 0,o35,o0,o223,.v (some (.l 1,false)) (.ar .lss .o x0 (.c (.i .i64 0))) 0,o35,o0,o223,.v (some (.l 1,false)) (.ar .geq .o x0 (.c (.i .i64 256))) 0,o35] [(p39,0)] (.cond t39 (S [o21,o39] [(p9,1),(p10,0)] .ret) .skip))) (S [o2,o6,o81,o171,.e none (.al 210 z210),o172,o3,o3] [(p13,3),(p14,1),(p15,0)] (.seq (.block 0 (S [o5,.v none (.fa 0 t13) 0,o14,o1,.v none (.ar .eql .o x3 x0) 0,o0] [(p52,0)] (.cond t52 (.drw [0,1,2,3,4,5,6,7,8,9,10,11,12,13] [o232,o2,o6,o86,o1,o10,.c none p193 [x5,x1,x0],o0,o7,o8,o33,o281,o9,o9] [(p14,1),(p15,0)]) (S [o5,.v none (.fa 0 t13) 0,o14,o1,.v none (.ar .gtr .o x3 x0) 0,o0] [(p69,0)] (.cond t69 (.drw [0,1,2,3,4,5,6,7,8,9,10,11,12,13,14] [o232,o2,o6,o86,o1,o5,o10,.c none p194 [x6,x2,x1,x0],o0,o7,o8,o33,o281,o9,o9] [(p14,1),(p15,0)]) (.ops [o232,o5,o10,.c none p195 [x2,x1,x0],o0,o7,o8,o33,o281,o9,o9] [(p14,1),(p15,0)])))))) (.seq (S [o32,o18] [(p88,0)] (.cond t88 (S [o32,o21,o4] [(p9,1),(p10,0)] .ret) .skip)) (.seq (.drw [0,1,2,3,4,5,6,7,8,9,10,11,12,13,14,15,16,17,18] [o2,o6,o86,o1,o24,o10,o41,o2,o6,o147,o20,o1,o19,.c none p196 [x9,x8,x6,x1,x0],o0,o7,o8,o4,o4] [(p15,0),(p16,1)]) (.seq (S [o32,o18] [(p108,0)] (.cond t108 (S [o32,o21,o4] [(p9,1),(p10,0)] .ret) .skip)) (S [o2,o232,o68,o81,.e none (.st 5 x0 x2)] [] (S [o38,o0,o3] [(p9,1),(p10,0)] .ret))))))))),162259431572013424221366417160975,4⟩
def k165:CF:=⟨[.t p5],(S [.e none (.box 30 t2),o3] [(p4,1),(p5,0)] (S [o2,o6,o70,o1,.v none (.mkf p198 [] [t4]) 0,.c none p197 [x1,x0],o0] [(p5,0)] .ret)),27,2⟩
def k166:CF:=⟨[.c p5 9 true],(S [o148,.e none (.al 120 z120)] [(p3,1),(p5,0)] (.seq (S [o5,.v none (.ar .eql .o x0 (.c (.i .u64 0))) 0,o0,o84,.v (some (.l 1,false)) (.fa 6 t3) 0,.v (some (.l 2,false)) (.fa 0 x0) 0,o120,.v (some (.l 4,false)) (.ar .neq .o x3 x0) 0,o222] [(p14,0)] (.cond t14 (S [o230,o231] [] .ret) .skip)) (S [.v none (.fa 3 t3) 0,o77,o229,o77,.v none (.bld z120 [(0,3,x2),(3,3,x0)]) 0,o231] [] .ret))),8215,2⟩
def k167:CF:=⟨[.t p5],(S [o34] [(p5,0)] (.seq (S [o5] [(p6,0)] (.block 0 (S [.v none (.ar .eql .o t6 (.c (.i .i32 65))) 0,o0] [(p7,0)] (.cond t7 (S [o2,o6,o14,o0] [(p5,0)] .ret) (S [.v none (.ar .eql .o t6 (.c (.i .i32 66))) 0,o0] [(p12,0)] (.cond t12 (S [o2,o6,o36,o0] [(p5,0)] .ret) (S [.v none (.ar .eql .o t6 (.c (.i .i32 67))) 0,o0] [(p17,0)] (.cond t17 (S [o2,o6,o81,o0] [(p5,0)] .ret) (S [.v none (.ar .eql .o t6 (.c (.i .i32 68))) 0,o0] [(p22,0)] (.cond t22 (S [o2,o6,o141,o0] [(p5,0)] .ret) .skip)))))))))) (S [o34] [(p5,0)] .ret))),2164851,2⟩
def k168:CF:=⟨[.t p3],(S [o21] [(p3,0)] (.seq (S [o2,o83] [(p5,0)] (.cond t5 (S [.v none (.mv (.c (.s 1 45))) 0] [(p3,0)] .ret) .skip)) (S [o2,.c none p200 [x0],o0] [(p3,0)] .ret))),21,1⟩
def k169:CF:=⟨[.t p3],(S [o173,o22] [(p2,1),(p3,0)] (.seq (S [o98,o1] [(p5,0)] (.block 0 (S [.v none (.ar .eql .o t5 (.c (.i .i64 1))) 0,o0] [(p6,0)] (.cond t6 (S [.v none (.fa 6 t2) 0,o1,.v none (.fa 7 t2) 0,o1,.v none (.fa 8 t2) 0,o1,.v none (.fa 9 t2) 0,o1,.v none (.fa 10 t2) 0,o1,.e none (.bsl 3 1 5 [(.i .i64 0),(.i .i64 0),(.i .i64 0),(.i .i64 0),(.i .i64 0)] [(0,1,x8),(1,1,x6),(2,1,x4),(3,1,x2),(4,1,x0)]),o0] [(p3,0)] .ret) (S [.v none (.ar .eql .o t5 (.c (.i .i64 2))) 0,o0] [(p19,0)] (.cond t19 (S [.v none (.fa 6 t2) 0,o1,.v none (.fa 8 t2) 0,o1,.v none (.fa 9 t2) 0,o1,.e none (.bsl 3 1 3 [(.i .i64 0),(.i .i64 0),(.i .i64 0)] [(0,1,x4),(1,1,x2),(2,1,x0)]),o0] [(p3,0)] .ret) (S [.v none (.ar .eql .o t5 (.c (.i .i64 4))) 0,o0] [(p28,0)] (.cond t28 (S [.v none (.fa 9 t2) 0,o1,o198,o0] [(p3,0)] .ret) .skip)))))))) (S [o22] [(p3,0)] .ret))),134479927,1⟩
def k174:CF:=⟨[.t p3],(S [o3] [(p3,0)] (S [o2,o6,o78,o1,.v none (.ln .m x0) 0,o0] [(p4,0)] (.seq (S [o2,o6,o78,o1,o110] [(p15,0)] (.block 0 (.loop (S [.e none (.nxt t15),o7] [(p17,0)] (.seq (.cond t17 .skip (.exit 0)) (.block 1 (S [.e none (.ent t15),o7,.e none (.al 30 z30),o26] [(p5,1)] (S [o2,o6,o70,o1,.v none (.mkf p202 [] [t5]) 0,.c none p201 [x1,x0],o25] [(p26,0)] (.cond t26 (.drw [0,1,2,3,4,5] [o2,o6,o78,o1,.v none (.ld t5) 0,.e none (.del .u64 x1 x0)] []) .skip))))))))) (S [o19,o2,o6,o78,o1,.v none (.ln .m x0) 0,.v none (.ar .sub .o x5 x0) 0,o0] [(p3,0)] .ret)))),33636381,1⟩
def k175:CF:=⟨[],(S [o2,o23,o0] [(p3,0)] (.ops [o2,o10,o10,o41,.c none p204 [x0],.c none p203 [x4,(.c (.i .i64 0)),x3,x0]] [])),5,1⟩
def k178:CF:=⟨[],(S [.c none p207 [],.e none (.al 364 z364),.e none (.st 12 x0 x1)] [(p3,1)] (.seq .skip (.block 0 (.loop (.block 1 (S [o13] [(p4,0)] (.seq (S [o39] [(p5,0)] (.block 2 (.loop (.seq (S [o27,o2,o6,o20,o1,o23,.v none (.ar .lss .o x5 x0) 0] [(p14,0)] (.cond t14 .skip (.exit 2))) (.seq (.block 3 (S [o2,o6,o20,o1,o27,.v none (.ia 6 x1 x0) 0,o152,o66,o153] [(p6,1)] (.seq (.seq (.drw [0,1,2,3,4,5,6,7,8,9,10,11,12,13,14,15,16] [o2,o6,o14,o1,o27,o45,o1,o25,o0,.v (some (.l 0,true)) (.fa 0 t6) 0,o50,.v (some (.l 2,true)) (.iar 12 1 t3 x0) 0,o51,o186,.v (some (.l 5,true)) (.ldn 6 t6) 0,.cv (some (.l 6,true)) x2 [x1,x0],o138] [(p40,0)]) (.cond t40 (.ops [o2,o6,o14,o1,o27,o45,.e none (.st 1 x0 (.c (.b true))),o49] [(p4,0)]) .skip)) (S [o2,o6,o14,o1,o27,o45,o1,o0,o52,.v (some (.l 1,true)) (.ldn 6 t6) 0,.c (some (.l 2,true)) p208 [x1,x0],o60] [(p58,0)] (.cond t58 (.ops [o49] [(p4,0)]) .skip))))) (.ops [o27,o44,o0] [(p5,0)])))))) (S [o19,o25] [(p60,0)] (.cond t60 (.exit 0) .skip))))))))),720576490135101501,1⟩
def k180:CF:=⟨[.t p6],(S [o3] [(p6,0)] (.seq (S [o185,o18] [(p9,0)] (.cond t9 (S [o3] [(p6,0)] .ret) .skip)) (S [o3] [(p7,0)] (S [.v none (.ld t3) 0,o221,o2,.c none p131 [x2,x1,x0],o0,o7,o8,o4,.e none (.st 1 t2 x1)] [(p7,1)] (S [o16,o0] [(p6,0)] .ret))))),367,4⟩
def k181:CF:=⟨[.t p5,.t p6],(S [o3,o3] [(p5,1),(p6,0)] (.seq (S [o2,.c none p53 [x0],o25,o0,o84,.c (some (.l 1,false)) p53 [x0],o246,o63] [(p15,0)] (.cond t15 (S [o3,o82] [(p5,1),(p6,0)] .ret) .skip)) (S [o2,o5,.c none p210 [x1,x0],o0] [(p7,0)] (.seq (S [o16,.v none (.ar .eql .s x0 (.c (.s 0 0))) 0] [(p20,0)] (.cond t20 (S [o3,.v none (.mv (.c (.i .i64 11))) 0] [(p5,1),(p6,0)] .ret) .skip)) (S [o16,o280,o43,o0,o3] [(p5,1),(p6,0)] .ret))))),540787,2⟩
def k182:CF:=⟨[.t p7],(S [o3] [(p7,0)] (S [o2,o6,o20,o1,o5,o10,.c none p211 [x2,x1,x0],o0,o7,o8,o4,o4] [(p8,1),(p9,0)] (S [o29,o59] [] (S [o11,o0] [(p7,0)] .ret)))),455,3⟩
def k183:CF:=⟨[.t p5],(S [o3] [(p5,0)] (.seq (.drw [0,1,2,3,4,5,6,7,8,9,10,11,12,13,14,15,16,17] [o2,o6,o14,o55,o2,o6,o20,o1,o5,.c none p212 [x5,x1,x0],o0,o7,o8,o33,.fl 83 z83,o260,o42,o42] [(p6,3),(p7,1),(p8,0)]) (S [o11,o59] [] (S [o2,.v none (.ldn 4 t6) 0,o68,o14,o76] [] (S [o16,o0] [(p5,0)] .ret))))),243,2⟩
def k184:CF:=⟨[.t p5],(S [o3] [(p5,0)] (.seq (S [o2,o23,o3] [(p8,2),(p9,1),(p10,0)] (.block 0 (.loop (S [.v none (.ar .lss .o t10 t9) 0] [(p11,0)] (.seq (.cond t11 .skip (.exit 0)) (.seq (.block 1 (S [o12,.v none (.ia 4 t8 t10) 0,o55,.e none (.al 64 z64),o42,.e none (.st 4 x1 x2)] [(p6,1),(p7,2)] (S [o128,o20,o1,o5,o194] [(p19,0)] (.cond t19 (S [o15,o0] [(p5,0)] .ret) .skip)))) (.ops [.v none (.ar .add .o t10 (.c (.i .i64 1))) 0,o0] [(p10,0)]))))))) (S [.c none p105 [(.c (.i .i64 5))]] [] (S [o3] [(p5,0)] .ret)))),264179,2⟩
def k185:CF:=⟨[.t p5],(S [o21] [(p5,0)] (S [o2,o6,o20,o1,o5,o80,o0,o7,o8,o66,o56,o9] [(p6,2)] (S [o100,o1,o90,o118] [] (S [o217,o1,o0] [(p5,0)] .ret)))),51,2⟩
def k186:CF:=⟨[.t p7],(S [o3] [(p7,0)] (.seq (S [o5,o83,o0,o84,o224,.v (some (.l 2,false)) (.nc x0) 0,.v (some (.l 3,false)) (.fa 8 x0) 0,.v (some (.l 4,false)) (.ld x0) 0,.v (some (.l 5,false)) (.ar .geq .o x4 x0) 0,.v none (.pick x6 (.c (.b true)) x0) 0] [(p17,0)] (.cond t17 (S [o109] [(p7,0)] .ret) .skip)) (S [o10,o2,o5,o68,o20,.v none (.iar 8 1 x0 x2) 0,.cv none x5 [x0],o0] [(p7,0)] .ret))),65607,3⟩
def k187:CF:=⟨[.t p4],(S [o3] [(p4,0)] (.seq (.seq (.drw [0,1,2,3,4,5,6,7,8,9,10,11,12] [o2,o6,o1,o99,o0,.v (some (.l 0,true)) (.ld t2) 0,o202,o203,o51,.v (some (.l 4,true)) (.nc x0) 0,o180,.v (some (.l 6,true)) (.ar .leq .o x5 x0) 0,o138] [(p17,0)]) (.cond t17 (S [o282] [(p4,0)] .ret) .skip)) (S [o3] [(p4,0)] .ret))),65547,2⟩
def k188:CF:=⟨[.t p3,.t p4],(S [o3,o3] [(p3,1),(p4,0)] (.seq (.drw [0,1,2,3,4,5,6,7,8,9,10,11,12,13,14,15] [o2,o6,o14,o55,o2,o6,o20,o1,.c none p213 [x4,x0],o0,o7,o8,o33,o9,o9,o9] [(p5,2),(p6,1),(p7,0)]) (S [o16,o59] [] (S [o27,o15,o4,o4] [(p3,1),(p4,0)] .ret)))),125,1⟩
def k189:CF:=⟨[.t p5,.t p6],(S [.e none (.box 126 t2),o34,o3] [(p4,2),(p5,1),(p6,0)] (.seq (S [o28,o1,o65,o1,o46,o1,.v none (.bld z31 [(0,1,x4),(1,1,x2),(2,1,x0)]) 0,o3] [(p17,1),(p18,0)] (.block 0 (.loop (S [.v none (.ar .lss .o t18 (.c (.i .i64 3))) 0] [(p19,0)] (.seq (.cond t19 .skip (.exit 0)) (.seq (.block 1 (S [.v none (.ixa 3 1 false t17 t18) 0,o0] [(p8,0)] (S [o2,o11,o80,o0,o7,o8,o66,o56,o9] [(p10,0)] (S [o12,o25] [(p28,0)] (.cond t28 (S [o34,o39] [(p5,1),(p6,0)] .ret) .skip))))) (.ops [o275,o0] [(p18,0)]))))))) (S [o65,o1,.v none (.bld z201 [(0,1,x0)]) 0,.v none (.bld z203 [(0,2,x0)]) 0,o46,o1,.v none (.bld z201 [(0,1,x0)]) 0,.v none (.bld z210 [(0,2,x0)]) 0,o2,o103,.v none (.bld z212 [(0,3,x6),(3,5,x2),(8,1,x1),(9,4,x0)]) 0,.e none (.box 212 x0),o0,o3] [(p5,1),(p6,0)] .ret))),134677179,2⟩
def k190:CF:=⟨[.t p4],(S [o3] [(p4,0)] (S [o2,o6,.e none (.st 1 x0 t2)] [] (S [o3] [(p4,0)] .ret))),11,2⟩
def k191:CF:=⟨[.t p5],(S [o3] [(p5,0)] (S [o2,o5,.c none p214 [x1,x0],o0] [(p5,0)] .ret)),19,2⟩
def k192:CF:=⟨[.c p7 5 true,.t p8,.t p9],(S [.e none (.box 210 t1),.e none (.al 210 z210),o3,o3] [(p4,3),(p7,2),(p8,1),(p9,0)] (S [o46,o47,o10,o41,.c none p215 [x2,x0],o0,o7,o8,.e none (.al 205 z205),o135,o9] [(p10,2),(p11,0)] (.seq (S [o17,o18] [(p22,0)] (.cond t22 (S [o201,o17,.e none (.st 5 t7 x1),o3,o9] [(p8,1),(p9,0)] .ret) .skip)) (S [.v none (.ldn 2 t10) 0,o46,o177] [] (S [o28,o47,o5,.c none p81 [x1,x0],o0,o7,o8,o4,o4] [(p11,0),(p12,1)] (S [o201,o31,o17,.e none (.st 5 t7 x2),o9,o9] [(p8,1),(p9,0)] .ret)))))),2101199,3⟩
def k193:CF:=⟨[.c p9 5 true,.t p10,.t p11],(S [.e none (.box 210 t1),.e none (.al 210 z210),o3,o3] [(p5,3),(p9,2),(p10,1),(p11,0)] (S [o149,o47,o5,o10,.c none p216 [x2,x1,x0],o0,o7,o8,o33,o227,.e none (.st 2 x0 x3),o42,o42] [(p12,3),(p13,1),(p14,0)] (.seq (S [o24,o18] [(p28,0)] (.cond t28 (S [.v none (.ldn 5 t5) 0,o24,.e none (.st 5 t9 x1),o3,o9] [(p10,1),(p11,0)] .ret) .skip)) (S [o174,o47,.e none (.al 205 z205),o177] [(p15,1)] (.seq (S [o37,o23,o3] [(p33,2),(p34,1),(p35,0)] (.block 0 (.loop (S [.v none (.ar .lss .o t35 t34) 0] [(p36,0)] (.seq (.cond t36 .skip (.exit 0)) (.seq (.block 1 (S [.v none (.mv t35) 0,.v none (.ia 1 t33 t35) 0,o1,o9,o4] [(p16,1),(p17,0)] (S [.v none (.fa 4 t5) 0,.v none (.ldn 1 x0) 0,o149,o14,o1,o38,o75,o132,.v none (.ldn 2 t15) 0,.v none (.bld z361 [(0,1,x2),(1,1,x1),(2,2,x0)]) 0,.c none p217 [x8,x0],o0,o7,o8,o33,.v none (.fa 4 t5) 0,o273] [] (.ops [o190,.e none (.st 2 t15 x0)] [])))) (.ops [.v none (.ar .add .o t35 (.c (.i .i64 1))) 0,o0] [(p35,0)]))))))) (S [.v none (.ldn 2 t12) 0,o190,.v none (.fa 4 t5) 0,.v none (.ldn 1 x0) 0,.v none (.bld z210 [(0,2,x3),(2,2,x2),(4,1,x0)]) 0,o5,o19,.c none p193 [x2,x1,x0],o7,o8,o33,.e none (.st 5 t9 x2),o9,o9] [(p10,1),(p11,0)] .ret)))))),64558858015,4⟩
def k195:CF:=⟨[.t p11,.t p12],(S [o21,o3] [(p11,1),(p12,0)] (S [o2,o5,o10,o19,o27,.c none p219 [x4,x3,x2,x1,x0],o0,o7,o8,o4,o4] [(p13,1),(p14,0)] (.seq (S [o24,o18] [(p27,0)] (.cond t27 (S [o24,o21,o4] [(p11,1),(p12,0)] .ret) .skip)) (S [o2,o37,o80,o0,o7,o8,o66,o56,o9] [(p15,2)] (.seq (S [.v none (.fa 0 t15) 0,o1,o196] [(p37,0)] (.cond t37 (S [o21,o241] [(p11,1),(p12,0)] .ret) .skip)) (S [.v none (.fa 1 t15) 0,o1,o0,o3] [(p11,1),(p12,0)] .ret)))))),68786617375,5⟩
def k196:CF:=⟨[.t p5],(S [o3] [(p5,0)] (.seq (S [o2,o23,o3] [(p8,1),(p9,0)] (.block 0 (.loop (S [.v none (.ar .lss .o t9 t8) 0] [(p10,0)] (.seq (.cond t10 .skip (.exit 0)) (.seq (.block 1 (S [o29,o0] [(p6,0)] (S [o5,o2,o15,o45,o1,.cv none x4 [x0]] [(p17,0)] (.cond t17 (S [o15,o0] [(p5,0)] .ret) .skip)))) (.ops [o254,o0] [(p9,0)]))))))) (S [.v none (.mv (.c (.i .i64 (.negSucc 0)))) 0] [(p5,0)] .ret))),66483,2⟩
def k197:CF:=⟨[.t p4],(S [o13] [(p4,0)] (.seq (.drw [0,1,2,3,4,5,6,7,8,9,10,11] [o2,o6,o14,o165,o185,.c none p199 [x1,x0],o0,o7,o8,.fl 112 z112,o214,o9] [(p6,0)]) (S [o15,o0] [(p4,0)] .ret))),43,2⟩
def k198:CF:=⟨[.c p5 3 true,.t p6],(S [o148,o89,o13] [(p3,2),(p5,1),(p6,0)] (.seq (S [o230,.c none p83 [x0],.v none (.bld z217 []) 0,.v none (.ar .eql (.a z217) x1 x0) 0] [(p12,0)] (.cond t12 (S [o212,o195,o13] [(p6,0)] .ret) .skip)) (.seq (S [o230,.c none p83 [x0],o3] [(p15,1),(p16,0)] (.block 0 (.loop (S [.v none (.ar .lss .o t16 (.c (.i .i64 3))) 0] [(p17,0)] (.seq (.cond t17 .skip (.exit 0)) (.seq (.block 1 (S [.v none (.ixa 3 3 true t15 t16) 0,o89,o88] [(p8,1)] (S [o213,.c none p84 [x0],o0,.v (some (.l 0,true)) (.fa 0 t8) 0,o50,.v (some (.l 2,true)) (.mv t2) 0,.v (some (.l 3,true)) (.ar .eql .o x1 x0) 0,o155] [(p26,0)] (.cond t26 (S [o213,o195,o49] [(p6,0)] .ret) .skip)))) (.ops [o208,o0] [(p16,0)]))))))) (S [o212,o195,o13] [(p6,0)] .ret)))),33671351,2⟩
def k199:CF:=⟨[.t p3],(S [o21] [(p3,0)] (S [o2,.c none p220 [x0],o0] [(p3,0)] .ret)),5,1⟩
def k200:CF:=⟨[.t p5],(S [o13] [(p5,0)] (S [o2,o5,.c none p197 [x1,x0],o136,o0] [(p5,0)] .ret)),19,2⟩
def k201:CF:=⟨[.t p4],(S [o13] [(p4,0)] (.seq (.drw [0,1,2,3,4,5,6,7,8,9,10,11] [o2,o6,o14,o165,o185,.c none p199 [x1,x0],o0,o7,o8,.fl 112 z112,o214,o9] [(p6,0)]) (S [o15,o0] [(p4,0)] .ret))),43,2⟩
def k202:CF:=⟨[],(S [o49] [(p9,0)] (S [o49] [(p10,0)] (.block 0 (.loop (.block 1 (S [o10,o5,o126,o0] [(p11,0)] (.seq (S [o17,.v none (.ar .leq .o x0 (.c (.i .i64 12))) 0] [(p24,0)] (.cond t24 (S [o2,o5,o10,.c none p221 [x2,x1,x0]] [] .ret) .skip)) (.seq (S [o19,o54] [(p30,0)] (.cond t30 (S [o2,o5,o10,.c none p222 [x2,x1,x0]] [] .ret) .skip)) (.seq (S [o29,o25] [(p36,0)] (.cond t36 (S [o2,o5,o10,.c none p223 [x2,x1,x0]] [] (.ops [o19,o69,o0] [(p4,0)])) .skip)) (S [o2,o5,o10,.c none p224 [x2,x1,x0],o0,o7,o8,o4,o4] [(p12,1),(p13,0)] (.seq (S [o37,o144] [(p51,0)] (.cond t51 (S [o2,o5,o10,.c none p225 [x2,x1,x0]] [] (S [o10,o69,o31,o5,o126,.v none (.ar .sub .o x3 x0) 0,o0] [(p12,0)] (.ops [o39] [(p13,0)]))) .skip)) (.seq (S [o29,o0,.v (some (.l 0,true)) (.mv t10) 0,.v none (.pick x1 x0 (.c (.b false))) 0,o0,.v (some (.l 0,true)) (.mv t13) 0,o106,o40] [(p69,0)] (.cond t69 (S [o2,o5,o10,.c none p226 [x2,x1,x0]] [(p73,0)] (.cond t73 .ret .skip)) .skip)) (.seq (.seq (.drw [0,1,2,3,4,5,6,7,8,9,10,11,12,13,14] [o5,.v none (.ar .gtr .o x0 (.c (.i .i64 0))) 0,o0,o52,.v (some (.l 1,true)) (.mv t2) 0,.v (some (.l 2,true)) (.ar .sub .o x0 (.c (.i .i64 1))) 0,.v (some (.l 3,true)) (.ia 1 x2 x0) 0,o137,.v (some (.l 5,true)) (.mv t1) 0,.v (some (.l 6,true)) (.mv t12) 0,.v (some (.l 7,true)) (.ia 1 x1 x0) 0,o265,.c (some (.l 9,true)) p227 [x4,x0],.v (some (.l 10,true)) (.not x0) 0,.v none (.pick x11 x0 (.c (.b false))) 0] [(p88,0)]) (.cond t88 (S [o2,o5,o10,o31,.c none p228 [x3,x2,x1,x0],o0] [(p14,0)] (S [o24,o0] [(p2,0)] (.exit 1))) .skip)) (S [o2,o5,o10,o31,.c none p229 [x3,x2,x1,x0],o0,o7,o8,o4,o4] [(p15,1),(p16,0)] (S [o38,o0] [(p10,0)] (S [o32,o5,o126,o10,o32,o126,o42,o4] [(p17,1),(p18,0)] (S [o17,.v none (.ar .quo .o x0 (.c (.i .i64 8))) 0,o0] [(p19,0)] (S [o132,o133,o176] [(p114,0)] (.cond t114 (S [o132,.v none (.mv t19) 0,.v none (.ar .geq .o x1 x0) 0,o0] [(p9,0)] (S [o2,o5,o32,o19,.c none p203 [x3,x2,x1,x0]] [] (.ops [o32,o44,o0] [(p2,0)]))) (S [o133,.v none (.mv t19) 0,.v none (.ar .geq .o x1 x0) 0,o0] [(p9,0)] (S [o2,o32,o44,o10,o19,.c none p203 [x4,x2,x1,x0]] [] (.ops [o32,o0] [(p3,0)])))))))))))))))))))))),10384593871817177683247510831234831,4⟩
def k203:CF:=⟨[.t p3],(S [o3] [(p3,0)] (.seq (.cond (.c (.b false)) (S [o2,.v none (.cvi .u32 x0) 0,.c none p230 [x0],o0] [(p3,0)] .ret) .skip) (S [o2,.c none p114 [x0],o0] [(p3,0)] .ret))),5,1⟩
def k206:CF:=⟨[.c p1 12 true],(S [.e none (.al 364 z364)] [(p1,0)] (S [.v none (.bld z364 [(0,1,(.c (.f p231 [] []))),(1,1,(.c (.f p232 [] []))),(2,1,(.c (.f p231 [] []))),(3,1,(.c (.f p233 [] []))),(4,1,(.c (.f p234 [] []))),(5,1,(.c (.f p233 [] []))),(6,1,(.c (.f p235 [] []))),(7,1,(.c (.f p236 [] []))),(8,1,(.c (.f p237 [] []))),(9,1,(.c (.f p233 [] []))),(10,1,(.c (.f p238 [] []))),(11,1,(.c (.f p237 [] [])))]) 0,.e none (.st 12 t1 x0)] [] .ret)),1,0⟩
def k207:CF:=⟨[.t p5],(S [o105,o13] [(p4,1),(p5,0)] (.seq (.block 0 (S [o28,o1,.v none (.ar .eql .o x0 (.c (.i .i64 11))) 0,o0] [(p8,0)] (.cond t8 (S [o2,o79,o1,o283,o0] [(p6,0)] (S [o2,o97,o1,o283,o0] [(p7,0)] (S [o15,o0,o168,.v none (.pick x1 (.c (.b true)) x0) 0,o0] [(p5,0)] .ret))) (.seq (.drw [0,1,2,3,4,5,6,7,8,9,10,11,12,13] [o28,o1,.v none (.ar .eql .o x0 (.c (.i .i64 10))) 0,o0,o52,o85,o119,o51,.v (some (.l 4,true)) (.fa 3 t4) 0,o180,o284,o191,o285,o0] [(p24,0)]) (.cond t24 (S [o2,.v none (.fa 5 t4) 0,o1,o283,o0] [(p5,0)] .ret) .skip))))) (S [o13] [(p5,0)] .ret))),8388859,2⟩
def k209:CF:=⟨[.t p5],(S [o21] [(p5,0)] (.seq (S [o2,.c none p53 [x0],o25,o0,o84,.c (some (.l 1,false)) p53 [x0],o246,o63] [(p15,0)] (.cond t15 (S [o21] [(p5,0)] .ret) .skip)) (S [o22] [(p6,0)] (.seq (S [o2,o64,o3] [(p17,1),(p18,0)] (.block 0 (.loop (S [.v none (.ar .lss .o t18 t17) 0] [(p19,0)] (.seq (.cond t19 .skip (.exit 0)) (.seq (.block 1 (S [o133,o0] [(p7,0)] (S [o5,o2,o16,o258,.c none p192 [x3,x0],o136] [(p26,0)] (.cond t26 (.ops [o15,o2,o16,o258,o220,.e none (.ap 5 1 1 x4 x0),o0] [(p6,0)]) .skip)))) (.ops [o275,o0] [(p18,0)]))))))) (S [o15,o122,o0] [(p5,0)] .ret))))),34029683,2⟩
def k210:CF:=⟨[.t p7,.t p8],(S [o3,o3] [(p7,1),(p8,0)] (S [o2,o10,o80,o0,o7,o8,o66,o56,o9] [(p9,2)] (.seq (.block 0 (S [o2,o5,o10,.e none (.bsl 3 1 2 [(.i .i64 0),(.i .i64 0)] [(0,1,x1),(1,1,x0)]),.c none p153 [x3,x0],o25,o0] [(p17,0)] (.cond t17 (S [o3,o39] [(p7,1),(p8,0)] .ret) (S [o72,o1,.v none (.ar .neq .o x0 (.c (.i .i64 6))) 0,o0,.v (some (.l 0,false)) (.fa 3 t9) 0,o57,.v (some (.l 2,false)) (.mv t2) 0,o228,o71,o0] [(p24,0)] (.cond t24 (S [o3,.v none (.mv (.c (.i .i64 10))) 0] [(p7,1),(p8,0)] .ret) .skip))))) (S [o2,o5,.v none (.fa 4 t9) 0,o1,.v none (.bld z94 [(0,1,(.c (.i .i64 7))),(3,1,x2),(4,1,x0)]) 0,o199,o7,o8,o4,o4] [(p7,1),(p8,0)] .ret)))),8454599,3⟩
def k211:CF:=⟨[.c p7 4 true,.t p8,.t p9],(S [o125,o101,o3,o3] [(p4,3),(p7,2),(p8,1),(p9,0)] (.seq (S [o103,.c none p154 [x0],o25] [(p14,0)] (.cond t14 (S [o124,o226,o3,o253] [(p8,1),(p9,0)] .ret) .skip)) (S [o5,o65,o1,o79,o1,o46,o1,o10,.c none p219 [x7,x5,x3,x1,x0],o0,o7,o8,o4,o4] [(p10,1),(p11,0)] (S [o103,o5,o10,o12,o17,.c none p155 [x4,x3,x2,x1,x0],o7,o8,o33,.e none (.st 4 t7 x2),o9,o9] [(p8,1),(p9,0)] .ret)))),10191,3⟩
def k212:CF:=⟨[.t p5,.t p6,.t p7],(S [o125,o3,o3,o3] [(p3,3),(p5,2),(p6,1),(p7,0)] (S [o5,.v none (.bld z94 [(0,1,(.c (.i .i64 1)))]) 0,.c none p26 [x1,x0],o0,o7,o8,o4,o4] [(p8,1),(p9,0)] (.seq (S [o29,o18] [(p17,0)] (.cond t17 (S [o29,o3,o3,o9] [(p5,2),(p6,1),(p7,0)] .ret) .skip)) (S [o5,o123,o1,o11,.c none p152 [x3,x1,x0],o7,o8,o33,o9,o9,o9] [(p5,2),(p6,1),(p7,0)] .ret)))),66039,2⟩
def k213:CF:=⟨[.t p5],(S [o3] [(p5,0)] (S [o2,o5,.c none p249 [x1,x0],o0] [(p5,0)] .ret)),19,2⟩
def k214:CF:=⟨[.c p5 2 true,.t p6],(S [.e none (.box 205 t1),.e none (.al 205 z205),o3] [(p3,2),(p5,1),(p6,0)] (.seq (.block 0 (S [o5,.v none (.ar .eql .o x0 (.c (.i .u64 18446744073709551615))) 0,o0] [(p7,0)] (.cond t7 (S [o190,o121,o39] [(p6,0)] .ret) (S [o192,o5,.c none p250 [x1,x0],o25,o0] [(p11,0)] (.cond t11 (S [o190,o121,o282] [(p6,0)] .ret) (S [o5,o123,o1,o164,o0] [(p17,0)] (.cond t17 (.seq (.drw [0,1,2,3,4,5,6,7] [o187,o30,o192,o5,.c none p251 [x1,x0],.v none (.ar .or .o x3 x0) 0,o187,o26] []) (S [o192,o121,o3] [(p6,0)] .ret)) .skip))))))) (S [o5,o73,o187,o1,o5,o73,o123,o1,.v none (.ar .sub .o x2 x0) 0,.v none (.ar .shl .o x5 x0) 0,.v none (.ar .or .o x0 (.c (.i .u64 1))) 0,.v none (.bld z205 [(0,1,x9),(1,1,x0)]) 0,o121,o3] [(p6,0)] .ret))),66679,2⟩
def k215:CF:=⟨[.c p7 2 true,.t p8,.t p9],(S [.e none (.box 201 t1),.e none (.box 22 t2),.e none (.box 3 t3),o227,o22,o3] [(p4,5),(p5,4),(p6,3),(p7,2),(p8,1),(p9,0)] (.seq (.block 0 (S [.v none (.ld t6) 0,o65,o1,o164,o0] [(p16,0)] (.cond t16 (S [o188,.e none (.st 2 t7 x0),o22,o282] [(p8,1),(p9,0)] .ret) (S [.v none (.ld t6) 0,o41,o65,o1,o41,.v none (.ar .sub .o x3 x0) 0,.v none (.ar .gtr .o x0 (.c (.i .u64 4))) 0,o0] [(p22,0)] (.cond t22 (S [o188,.e none (.st 2 t7 x0),o22,.v none (.mv (.c (.i .i64 13))) 0] [(p8,1),(p9,0)] .ret) .skip))))) (S [.e none (.al 40 z40)] [(p10,0)] (S [o116,.e none (.st 1 x0 (.c (.i .i64 0)))] [(p11,1)] (S [.v none (.ldn 2 t4) 0,o227,o177] [(p12,1)] (S [.v none (.mkf p252 [] [t4,t5,t6,t11]) 0,o0] [(p13,0)] (.seq (S [o37] [] (.block 1 (.ops [o53] []))) (.seq (S [o189,o18] [(p42,0)] (.cond t42 (.seq (.drw [0,1,2,3,4] [o188,.v none (.ld t11) 1,.e none (.st 2 t7 x1),o22,o9] [(p8,1),(p9,0)]) .ret) .skip)) (.seq (.drw [0,1,2,3,4] [.v none (.ldn 2 t12) 0,.v none (.ld t10) 1,.e none (.st 2 t7 x1),o4,o3] [(p8,1),(p9,0)]) .ret))))))))),2199025393663,3⟩
def k216:CF:=⟨[.c p5 1 true,.c p6 4 true,.t p7],(S [.e none (.box 208 t1),.e none (.box 361 t2),.e none (.al 208 z208),.e none (.al 361 z361),o13] [(p3,4),(p4,3),(p5,2),(p6,1),(p7,0)] (S [o123,o1,.c none p254 [x0],o0] [(p8,0)] (S [.v none (.ldn 1 t3) 0,o28,o1,.c none p255 [x2,x0],o0,o7,o8,o4,o4] [(p9,1),(p10,0)] (.seq (S [o12] [(p21,0)] (.cond t21 (S [o11,o29,o103,.v none (.ia 4 x2 x1) 0,o134] [] (S [o11,o286,.v none (.bld z361 []) 0,.e none (.st 1 t5 x1),o287,o13] [(p7,0)] .ret)) .skip)) (S [o11,o29,o103,.e none (.bsl 361 4 1 [(.i .i64 0),(.i .i64 0),(.i .u64 0),(.i .u64 0)] [(0,4,x0)]),.c none p256 [x3,x2,x0],o0] [(p8,0)] (.seq (S [o11,o23,.v none (.ar .leq .o x0 (.c (.i .i64 4))) 0] [(p36,0)] (.cond t36 (S [o11,o286,.v none (.bld z361 []) 0,.e none (.st 1 t5 x1),o287,o13] [(p7,0)] .ret) .skip)) (.seq (.drw [0,1,2,3,4,5,6,7,8] [o11,.v none (.sln 4 x0 (.c (.i .i64 1))) 0,o286,o11,.v none (.ia 4 x0 (.c (.i .i64 0))) 0,.v none (.ldn 4 x0) 1,.e none (.st 1 t5 x3),o287,o49] [(p7,0)]) .ret))))))),34360787967,2⟩
def k218:CF:=⟨[.t p11,.t p12],(S [o3,o3] [(p11,1),(p12,0)] (.seq (S [o2,o5,.c none p132 [x1,x0],o25,o0,o58,o259,o266,o200,o71,o0,o58,.v (some (.l 1,false)) (.mv t5) 0,o266,o200,o71] [(p30,0)] (.cond t30 (S [o3,o39] [(p11,1),(p12,0)] .ret) .skip)) (S [o2,o27,o80,o0,o7,o8,o66,o56,o9] [(p13,2)] (.seq (.block 0 (.seq (.block 2 (.block 1 (.seq (.seq (S [.v none (.fa 0 t13) 0,o1,.v none (.ar .neq .o x0 (.c (.i .i64 10))) 0,o0] [(p37,0)] (.cond t37 (.exit 1) .skip)) (S [.v none (.fa 3 t13) 0,o1,o5,.v none (.ar .neq .o x1 x0) 0,o0,.v (some (.l 0,false)) (.fa 2 t13) 0,o57,.v (some (.l 2,false)) (.mv t3) 0,o228,o71,o0,.v (some (.l 0,false)) (.fa 4 t13) 0,o57,.v (some (.l 2,false)) (.mv t4) 0,o228,o71,o0] [(p41,0)] (.cond t41 (.exit 2) .skip))) (.exit 0)))) (.seq (S [o3,o241] [(p11,1),(p12,0)] .ret) (.exit 0)))) (S [.v none (.fa 5 t13) 0,o1,o0,o3] [(p11,1),(p12,0)] .ret))))),1168767982623,5⟩
def k219:CF:=⟨[.t p3],(S [o21] [(p3,0)] (S [o2,.c none p257 [x0,(.c (.i .i64 10))],o0] [(p3,0)] .ret)),5,1⟩
def k220:CF:=⟨[],(S [o5,o44,o0] [(p7,0)] (.block 0 (.loop (.seq (S [o16,o10,o176] [(p13,0)] (.cond t13 .skip (.exit 0))) (.seq (.block 1 (S [o16,o0] [(p8,0)] (.block 2 (.loop (.seq (.seq (.drw [0,1,2,3,4,5,6,7,8,9,10,11,12,13,14] [o11,o5,.v none (.ar .gtr .o x1 x0) 0,o0,o52,.v (some (.l 1,true)) (.mv t8) 0,.v (some (.l 2,true)) (.ia 1 x1 x0) 0,o51,o186,.v (some (.l 5,true)) (.mv t8) 0,.v (some (.l 6,true)) (.ar .sub .o x0 (.c (.i .i64 1))) 0,.v (some (.l 7,true)) (.ia 1 x2 x0) 0,o265,.c (some (.l 9,true)) p227 [x5,x0],.v none (.pick x10 x0 (.c (.b false))) 0] [(p31,0)]) (.cond t31 .skip (.exit 2))) (.seq (.block 3 (.drw [0,1,2,3,4,5,6,7,8,9,10,11,12,13,14,15,16,17] [o2,o11,o2,o11,o69,o2,o11,o69,o156,o1,o2,o11,o45,o1,.v none (.ia 1 x13 x12) 0,o274,.v none (.ia 1 x13 x11) 0,o273] [])) (.ops [o11,o69,o0] [(p8,0)]))))))) (.ops [o16,o44,o0] [(p7,0)])))))),1073746119,3⟩
def k230:CF:=⟨[.t p5],(S [o105,o13] [(p5,0)] (S [o13] [(p5,0)] .ret)),19,2⟩
def k231:CF:=⟨[.t p5],(S [o105,o13] [(p5,0)] (S [o49] [(p5,0)] .ret)),19,2⟩
def k232:CF:=⟨[.t p5],(S [o105,o13] [(p4,1),(p5,0)] (.seq (.drw [0,1,2,3,4,5,6,7,8] [o2,o6,o14,o1,o79,o1,o156,o1,o0] [(p5,0)]) .ret)),27,2⟩
def k233:CF:=⟨[.t p5],(S [o105,o13] [(p4,1),(p5,0)] (.seq (.seq (.drw [0,1,2,3,4,5,6,7,8,9,10,11,12,13,14,15,16,17,18,19,20,21,22,23,24,25,26,27,28,29] [o2,o6,o14,o1,o79,o1,o156,o1,o0,o52,.v (some (.l 1,true)) (.fa 4 t4) 0,o269,.c (some (.l 3,true)) p264 [x2,x0],o155,o0,o58,o225,o288,o120,.v (some (.l 4,false)) (.fa 4 t4) 0,o181,.v (some (.l 6,false)) (.ia 1 x2 x0) 0,o289,.v (some (.l 8,false)) (.mv x0) 0,o52,.v (some (.l 1,true)) (.fa 3 t4) 0,o269,.c (some (.l 3,true)) p264 [x2,x0],.v (some (.l 13,false)) (.pick x4 x0 (.c (.b false))) 0,.v none (.pick x14 (.c (.b true)) x0) 0] [(p35,0)]) (.cond t35 (S [o49] [(p5,0)] .ret) .skip)) (.seq (.drw [0,1,2,3,4,5,6,7,8,9,10,11,12,13,14,15,16,17,18,19,20,21,22,23,24,25,26,27,28,29,30,31,32,33,34,35,36,37] [o2,o6,.v none (.fa 5 x0) 0,o20,o1,o0,o52,o85,o119,o51,o186,.v (some (.l 5,true)) (.nc x0) 0,.v (some (.l 6,true)) (.fa 2 x0) 0,o191,.v (some (.l 8,true)) (.fa 3 t4) 0,.v (some (.l 9,true)) (.ld x0) 0,.v (some (.l 10,true)) (.ia 1 x2 x0) 0,.v (some (.l 11,true)) (.ld x0) 0,.v (some (.l 12,true)) (.ia 1 x8 x0) 0,.v (some (.l 13,true)) (.ld x0) 0,.v none (.pick x14 x0 (.c (.b false))) 0,o0,o52,o85,o119,o51,o186,.v (some (.l 5,true)) (.nc x0) 0,.v (some (.l 6,true)) (.fa 2 x0) 0,o191,.v (some (.l 8,true)) (.fa 4 t4) 0,.v (some (.l 9,true)) (.ld x0) 0,.v (some (.l 10,true)) (.ia 1 x2 x0) 0,.v (some (.l 11,true)) (.ld x0) 0,.v (some (.l 12,true)) (.ia 1 x8 x0) 0,.v (some (.l 13,true)) (.ld x0) 0,.v none (.pick x14 x0 (.c (.b false))) 0,o0] [(p5,0)]) .ret))),17179869211,2⟩
def k234:CF:=⟨[.t p5],(S [o105,o13] [(p4,1),(p5,0)] (.seq (.drw [0,1,2,3,4,5,6,7,8,9,10,11,12,13,14,15,16,17,18,19,20,21,22,23,24,25,26,27,28,29,30,31,32,33,34] [o2,o6,o14,o1,o97,o1,o156,o1,o0,o52,o85,o119,o51,.v (some (.l 4,true)) (.fa 3 t4) 0,o180,o284,o191,.v (some (.l 8,true)) (.mv x0) 0,o58,o225,o288,o120,.v (some (.l 4,false)) (.mv t1) 0,.v (some (.l 5,false)) (.nc x0) 0,.v (some (.l 6,false)) (.fa 3 x0) 0,o289,.v (some (.l 8,false)) (.fa 3 t4) 0,.v (some (.l 9,false)) (.ld x0) 0,.v (some (.l 10,false)) (.ia 1 x2 x0) 0,.v (some (.l 11,false)) (.ld x0) 0,.v (some (.l 12,false)) (.ia 1 x8 x0) 0,.v (some (.l 13,false)) (.ld x0) 0,.v (some (.l 23,true)) (.pick x14 (.c (.b true)) x0) 0,.v none (.pick x24 x0 (.c (.b false))) 0,o0] [(p5,0)]) .ret)),27,2⟩
def k235:CF:=⟨[.t p5],(S [o105,o13] [(p4,1),(p5,0)] (.seq (.drw [0,1,2,3,4,5,6,7,8,9,10,11,12,13,14,15,16] [o2,o6,o14,o1,o2,o6,o141,o1,o79,o1,o97,o1,o112,.v none (.lk .u16 (.i .i64 0) x5 x0 false) 0,.v none (.ia 1 x10 x0) 0,o1,o0] [(p6,0)]) (.seq (.drw [0,1,2,3,4,5,6,7,8,9,10,11,12,13,14,15,16,17,18,19,20,21,22,23] [o2,.v none (.ldn 6 t4) 0,.c none p235 [x1,x0],o0,.v (some (.l 0,false)) (.mv t6) 0,.v (some (.l 1,false)) (.mv x0) 0,o52,o85,.v (some (.l 2,true)) (.fa 5 x0) 0,.v (some (.l 3,true)) (.fa 1 x0) 0,o137,.v (some (.l 5,true)) (.mv x0) 0,o58,o225,o288,o120,.v (some (.l 4,false)) (.fa 3 t4) 0,o181,.v (some (.l 6,false)) (.ia 1 x2 x0) 0,o289,.v (some (.l 14,true)) (.pick x8 (.c (.b true)) x0) 0,.v (some (.l 17,false)) (.pick x15 x0 (.c (.b false))) 0,.v none (.pick x18 (.c (.b true)) x0) 0,o0] [(p5,0)]) .ret))),59,2⟩
def k236:CF:=⟨[.t p5],(S [o105,o13] [(p4,1),(p5,0)] (.seq (.drw [0,1,2,3,4,5,6,7,8,9,10,11,12,13,14,15,16,17,18] [o2,o6,o14,o1,o79,o1,o156,o1,o0,o52,o85,o119,o51,.v (some (.l 4,true)) (.fa 4 t4) 0,o180,o284,o191,o285,o0] [(p5,0)]) .ret)),27,2⟩
def k249:CF:=⟨[.t p5],(S [.e none (.box 205 t1),o13] [(p3,1),(p5,0)] (.seq (S [o5,.v none (.ar .eql .o x0 (.c (.i .u64 18446744073709551615))) 0] [(p8,0)] (.cond t8 (S [o13] [(p5,0)] .ret) .skip)) (.seq (S [o192,o190,.v none (.ar .eql (.a z205) x1 x0) 0,o0,o84,.v (some (.l 1,false)) (.fa 0 t3) 0,.v (some (.l 2,false)) (.ld x0) 0,.v (some (.l 3,false)) (.ar .geq .o x2 x0) 0,o71] [(p17,0)] (.cond t17 (S [o49] [(p5,0)] .ret) .skip)) (S [o192,o5,.c none p251 [x1,x0],o0] [(p6,0)] (S [o15,.v none (.ar .neq .o x0 (.c (.i .u64 0))) 0,o0,.v (some (.l 0,true)) (.fa 1 t3) 0,o50,.v (some (.l 2,true)) (.mv t6) 0,.v (some (.l 3,true)) (.ar .and .o x1 x0) 0,.v (some (.l 4,true)) (.ar .eql .o x0 (.c (.i .u64 0))) 0,o107,o0] [(p5,0)] .ret))))),65719,2⟩
def k253:CF:=⟨[.t p3],(S [o22] [(p3,0)] (.seq (S [o2,o255] [(p5,0)] (.cond t5 (S [o22] [(p3,0)] .ret) .skip)) (S [.e none (.bsl 361 4 0 [] []),o2,.e none (.ap 361 4 32 x1 x0),o0] [(p3,0)] .ret))),21,1⟩
def k254:CF:=⟨[.t p5,.t p6],(S [.e none (.box 208 t1),o3,o13] [(p3,2),(p5,1),(p6,0)] (S [o123,o1,o5,.c none p270 [x1,x0,(.c (.f p271 [] []))],o7,o8,o4,o4] [(p5,1),(p6,0)] .ret)),55,2⟩
def k255:CF:=⟨[.t p7],(S [o22] [(p7,0)] (S [o2,o5,o129] [] (S [o10,o23,o0] [(p8,0)] (.seq (S [o11,o54] [(p17,0)] (.cond t17 (S [o2,o0] [(p7,0)] .ret) .skip)) (S [o2,o23,o0] [(p9,0)] (.seq (S [o5,o29,o194] [(p23,0)] (.cond t23 (S [o2,o10,.e none (.ap 361 4 32 x1 x0),o0] [(p7,0)] .ret) .skip)) (.seq (S [o29,o11,o75,o2,o53,.v none (.ar .gtr .o x2 x0) 0] [(p32,0)] (.cond t32 (S [o2,o5,o53,o29,o11,o75,o5,o126,o53,o0] [(p10,0)] (S [o12,o5,o129,o10,o53] [] (.seq (.drw [0,1,2,3,4,5,6,7,8] [o12,o5,o11,o75,o290,o2,o5,o129,o53] []) (S [o12,o0] [(p7,0)] .ret)))) .skip)) (S [o2,o29,o11,o75,o53,o0] [(p1,0)] (.seq (S [o10,o2,o5,o11,o75,o290,.c none p272 [x5,x0],o25] [(p69,0)] (.cond t69 (.seq (.drw [0,1,2,3,4,5,6,7,8] [o2,o5,o11,o75,o290,o2,o5,o129,o53] []) (S [o2,o5,o129,o10,o53] [] (S [o2,o0] [(p7,0)] .ret))) .skip)) (S [o2,o29,o129,o10,o53] [] (S [o2,o5,o129,o11,.c none p273 [x1,x0]] [] (S [o2,o0] [(p7,0)] .ret)))))))))))),295147905181504570311,3⟩
def k256:CF:=⟨[.t p5],(S [o21] [(p5,0)] (.seq (S [o5,.v none (.ar .eql .o x0 (.c (.i .i64 10))) 0] [(p12,0)] (.cond t12 (.seq (S [o2,.v none (.ar .leq .o (.c (.i .i64 0)) x0) 0,o0,o52,.v (some (.l 1,true)) (.ar .lss .o x0 (.c (.i .i64 100))) 0,o40] [(p18,0)] (.cond t18 (S [o2,.c none p274 [x0],o0] [(p5,0)] .ret) .skip)) (S [.e none (.al 412 z412)] [(p6,0)] (S [o2,o41,o0] [(p7,0)] (.seq (S [o2,o83] [(p24,0)] (.cond t24 (.ops [o16,o53,o0] [(p7,0)]) .skip)) (S [o16,.c none p275 [x0],o0] [(p8,0)] (S [o11,o130,.v none (.sla 24 1 t6 (some (.c (.i .i64 1))) (some x0)) 0,o16,.c none p276 [x1,x0]] [] (.seq (S [o2,o83] [(p35,0)] (.cond t35 (S [.v none (.iar 24 1 t6 (.c (.i .i64 0))) 0,.e none (.st 1 x0 (.c (.i .u8 45)))] [] (S [o11,o130,.v none (.sla 24 1 t6 none (some x0)) 0,o122,o0] [(p5,0)] .ret)) .skip)) (S [o11,o130,.v none (.sla 24 1 t6 (some (.c (.i .i64 1))) (some x0)) 0,o122,o0] [(p5,0)] .ret)))))))) .skip)) (S [o2,o41,o5,o2,o83,.c none p277 [(.c .sn),x3,x2,x0,(.c (.b false))],o0,o7,o8,o4,o4] [(p10,0)] (S [o12,o0] [(p5,0)] .ret)))),17188391667,2⟩
def k269:CF:=⟨[.t p7,.t p8],(S [o3,o13] [(p7,1),(p8,0)] (S [o2,o23,o0] [(p9,0)] (S [o29,o3,o4] [(p10,1),(p11,0)] (.seq (.block 0 (.loop (.seq (S [o12,o17,o176] [(p18,0)] (.cond t18 .skip (.exit 0))) (.block 1 (S [o12,o17,o75,o41,.v none (.ar .shr .o x0 (.c (.i .u64 1))) 0,o43,o0] [(p12,0)] (S [o10,o2,o31,.v none (.ia 4 x1 x0) 0,o55,o5,.cv none x5 [x1,x0],o83] [(p32,0)] (.cond t32 (.ops [o31,o44,o0] [(p10,0)]) (.ops [o31,o0] [(p11,0)])))))))) (S [o12,o12,o29,o176,o0,.v (some (.l 0,true)) (.mv t3) 0,o202,.v (some (.l 2,true)) (.mv t10) 0,.v (some (.l 3,true)) (.ia 4 x1 x0) 0,.v (some (.l 4,true)) (.ldn 4 x0) 0,.v (some (.l 5,true)) (.mv t2) 0,.cv (some (.l 6,true)) x5 [x1,x0],.v (some (.l 7,true)) (.ar .eql .o x0 (.c (.i .i64 0))) 0,o285,.v none (.mv x13) 0,o4] [(p7,1),(p8,0)] .ret))))),2147618759,3⟩
def k273:CF:=⟨[.t p3],(S [o21] [(p3,0)] (.seq (S [o2,.v none (.ar .lss .o x0 (.c (.i .i64 10))) 0] [(p5,0)] (.cond t5 (S [o2,o2,o44,.v none (.sls (.c (.s 36 93621433862240650313326231306435056417042768930449266319129758623240466503934737414522)) (some x2) (some x0)) 0,o0] [(p3,0)] .ret) .skip)) (S [o2,.v none (.ar .mul .o x0 (.c (.i .i64 2))) 0,o2,.v none (.ar .mul .o x0 (.c (.i .i64 2))) 0,.v none (.ar .add .o x0 (.c (.i .i64 2))) 0,.v none (.sls (.c (.s 200 8369396053099643259884660439900312228746471110943504458504829912206407100469475510520505676855750014530596077689858408204562721349408824591789441711103775826291439126061900675989976254244761425382494394669896706626295868329681710377411642562040512013377776180902291979747008038411282346274188424097310996521951660972735479027990947060043115083917949168200323041593656569302669535377774123378085539195783572932112166539323561441937920580889744256865042652178519653545620815178381625)) (some x3) (some x0)) 0,o0] [(p3,0)] .ret))),21,1⟩
def fs:T CF:=(.n (.n (.n (.n (.n (.n (.n (.n (.n .e (some k255) .e) none .e) (some k63) (.n .e (some k191) .e)) (some k31) (.n (.n .e (some k159) .e) none .e)) none (.n (.n .e none (.n .e (some k207) .e)) (some k47) (.n (.n .e (some k175) .e) (some k111) .e))) (some k7) (.n (.n (.n (.n .e (some k135) .e) (some k71) (.n .e (some k199) .e)) (some k39) (.n (.n .e (some k167) .e) (some k103) (.n .e (some k231) .e))) (some k23) (.n (.n (.n .e (some k151) .e) (some k87) (.n .e (some k215) .e)) none (.n (.n .e (some k183) .e) (some k119) .e)))) (some k3) (.n (.n (.n (.n (.n .e (some k131) .e) (some k67) (.n .e (some k195) .e)) (some k35) (.n (.n .e (some k163) .e) (some k99) .e)) (some k19) (.n (.n (.n .e (some k147) .e) (some k83) (.n .e (some k211) .e)) (some k51) (.n .e (some k115) .e))) (some k11) (.n (.n (.n (.n .e (some k139) .e) (some k75) (.n .e (some k203) .e)) (some k43) (.n .e (some k107) (.n .e (some k235) .e))) (some k27) (.n (.n .e none (.n .e (some k219) .e)) (some k59) (.n (.n .e (some k187) .e) none .e))))) none (.n (.n (.n (.n (.n (.n .e (some k129) .e) (some k65) (.n .e (some k193) .e)) (some k33) (.n (.n .e (some k161) .e) none .e)) (some k17) (.n (.n (.n (.n .e (some k273) .e) (some k145) .e) (some k81) (.n .e (some k209) .e)) (some k49) (.n .e (some k113) .e))) (some k9) (.n (.n (.n (.n .e (some k137) .e) none (.n .e (some k201) .e)) (some k41) (.n (.n .e (some k169) .e) (some k105) (.n .e (some k233) .e))) none (.n (.n (.n .e (some k153) .e) (some k89) .e) (some k57) (.n (.n .e (some k185) .e) (some k121) (.n .e (some k249) .e))))) (some k5) (.n (.n (.n (.n (.n .e (some k133) .e) none (.n .e (some k197) .e)) (some k37) (.n (.n .e (some k165) .e) (some k101) .e)) (some k21) (.n (.n (.n .e (some k149) .e) (some k85) (.n .e (some k213) .e)) (some k53) (.n (.n .e (some k181) .e) none .e))) (some k13) (.n (.n (.n (.n (.n .e (some k269) .e) none .e) (some k77) .e) (some k45) (.n .e (some k109) .e)) (some k29) (.n (.n (.n .e (some k157) .e) none .e) (some k61) (.n (.n .e (some k189) .e) (some k125) (.n .e (some k253) .e))))))) none (.n (.n (.n (.n (.n (.n (.n (.n .e (some k256) .e) (some k128) .e) (some k64) (.n .e (some k192) .e)) (some k32) (.n (.n .e (some k160) .e) none .e)) (some k16) (.n (.n (.n .e (some k144) .e) (some k80) .e) (some k48) (.n .e (some k112) .e))) (some k8) (.n (.n (.n (.n .e (some k136) .e) (some k72) (.n .e (some k200) .e)) (some k40) (.n (.n .e (some k168) .e) none (.n .e (some k232) .e))) (some k24) (.n (.n (.n .e (some k152) .e) (some k88) (.n .e (some k216) .e)) (some k56) (.n (.n .e (some k184) .e) (some k120) .e)))) none (.n (.n (.n (.n (.n .e (some k132) .e) (some k68) (.n .e (some k196) .e)) (some k36) (.n (.n .e (some k164) .e) (some k100) .e)) (some k20) (.n (.n (.n .e (some k148) .e) (some k84) (.n .e (some k212) .e)) (some k52) (.n (.n .e (some k180) .e) none .e))) (some k12) (.n (.n (.n .e (some k76) .e) (some k44) (.n .e (some k108) (.n .e (some k236) .e))) (some k28) (.n (.n (.n .e (some k156) .e) none (.n .e (some k220) .e)) (some k60) (.n (.n .e (some k188) .e) none .e))))) none (.n (.n (.n (.n (.n (.n .e (some k130) .e) (some k66) .e) (some k34) (.n (.n .e (some k162) .e) none .e)) (some k18) (.n (.n .e (some k82) (.n .e (some k210) .e)) (some k50) (.n (.n .e (some k178) .e) (some k114) .e))) (some k10) (.n (.n (.n .e (some k74) (.n .e (some k202) .e)) (some k42) (.n .e (some k106) (.n .e (some k234) .e))) (some k26) (.n (.n (.n .e (some k154) .e) none (.n .e (some k218) .e)) (some k58) (.n (.n .e (some k186) .e) (some k122) .e)))) (some k6) (.n (.n (.n (.n (.n .e (some k134) .e) none (.n .e (some k198) .e)) none (.n (.n .e (some k166) .e) none (.n .e (some k230) .e))) (some k22) (.n (.n (.n .e (some k150) .e) (some k86) (.n .e (some k214) .e)) (some k54) (.n (.n .e (some k182) .e) (some k118) .e))) none (.n (.n (.n .e (some k78) (.n .e (some k206) .e)) (some k46) (.n (.n .e (some k174) .e) (some k110) .e)) (some k30) (.n (.n (.n .e (some k158) .e) none .e) (some k62) (.n (.n .e (some k190) .e) (some k126) (.n .e (some k254) .e))))))))
end
noncomputable section
abbrev BI:=List SV→T Ob→Pos→RF
def er (n:Nat):SV:=.i .i64 (.ofNat n)
def codeOf (kind sl sv n a b c:Nat):Nat:=Nat.add kind (Nat.mul 16 (Nat.add a (Nat.mul 2097152 (Nat.add b (Nat.mul 2097152 (Nat.add c (Nat.mul 2097152 (Nat.add n (Nat.mul 18446744073709551616 (Nat.add sl (Nat.mul 1024 sv)))))))))))
def fN {R:Type} (n:Nat) (k:Nat→R):R:=Nat.rec (k 0) (fun m _=>k (Nat.succ m)) n
def findC (c:Nat) (l:List Nat) (n:Nat):Nat:=List.rec (motive:=fun _=>Nat→Nat) (fun _=>0) (fun x _ ih n=>bif Nat.beq x c then n else ih (Nat.pred n)) l n
def inS (n a:Nat):Bool:=and (Nat.blt 0 a) (Nat.ble a n)
def mayC (m kind sl n a b c:Nat):Bool:=match kind with
 | 1=>and (Nat.ble sl 1000) (and (Nat.beq n 0) (and (Nat.beq a 0) (and (Nat.beq b 0) (Nat.beq c 0))))
 | 2=>and (Nat.beq sl 0) (and (Nat.beq a 0) (and (Nat.beq b 0) (Nat.beq c 0)))
 | 3 | 5=>and (Nat.beq sl 0) (and (Nat.beq n 0) (and (inS m a) (and (Nat.beq b 0) (Nat.beq c 0))))
 | 4=>and (Nat.beq sl 0) (and (Nat.beq n 0) (and (inS m a) (and (inS m b) (and (Nat.beq c 0) (Nat.ble a b)))))
 | 6 | 7 | 8 | 11=>and (Nat.beq sl 0) (and (Nat.beq n 0) (and (inS m a) (and (inS m b) (Nat.beq c 0))))
 | 9=>and (Nat.beq sl 0) (and (inS m a) (and (Nat.beq b 0) (Nat.beq c 0)))
 | 10=>and (Nat.beq sl 0) (and (inS m a) (and (inS m b) (inS m c)))
 | _=>false
structure PR where
 x:Nat
 e:Nat
 m:Nat
 rev:List Nat
def putC (m:Nat) (rev:List Nat) (most:Nat) (kind sl sv n a b c:Nat):PR :=
 bif mayC m kind sl n a b c then fN (codeOf kind sl sv n a b c) fun cd=>fN (findC cd rev m) fun x =>
  bif Nat.beq x 0 then (bif Nat.ble most m then ⟨0,4,m,rev⟩ else ⟨Nat.succ m,0,Nat.succ m,cd::rev⟩) else ⟨x,0,m,rev⟩
 else ⟨0,1,m,rev⟩
def memC (c:Nat) (l:List Nat):Bool:=List.rec false (fun x _ ih=>bif Nat.beq x c then true else ih) l
def inF (c:Nat) (F:Option (List Nat)):Bool:=match F with
 | none=>true
 | some l=>memC c l
def put25:BI:=fun vs me nx=>match vs with
 | [.p i 0,.a [.i .i64 (.ofNat kind),.s sl sv,.i .u64 (.ofNat n),.i .i64 (.ofNat a),.i .i64 (.ofNat b),.i .i64 (.ofNat c)]]=>match T.get i me with
  | some (.st m rev most F)=>bif and (Nat.blt n 18446744073709551616) (bif mayC m kind sl n a b c then inF (codeOf kind sl sv n a b c) F else true) then PR.rec (fun x e m rev=>.ret (.t [er x,er e]) (T.put i (some (.st m rev most F)) me) nx) (putC m rev most kind sl sv n a b c) else .no
  | _=>.no
 | _=>.no
def decC (cd:Nat):SV :=
 fN (Nat.mod cd 16) fun kind=>fN (Nat.div cd 16) fun cd=>fN (Nat.mod cd 2097152) fun a=>fN (Nat.div cd 2097152) fun cd=>fN (Nat.mod cd 2097152) fun b=>fN (Nat.div cd 2097152) fun cd =>
 fN (Nat.mod cd 2097152) fun c=>fN (Nat.div cd 2097152) fun cd=>fN (Nat.mod cd 18446744073709551616) fun n=>fN (Nat.div cd 18446744073709551616) fun cd=>fN (Nat.mod cd 1024) fun sl=>fN (Nat.div cd 1024) fun sv =>
 .a [.i .i64 (.ofNat kind),.s sl sv,.i .u64 (.ofNat n),.i .i64 (.ofNat a),.i .i64 (.ofNat b),.i .i64 (.ofNat c)]
def tmZ:SV:=.a [.i .i64 0,.s 0 0,.i .u64 0,.i .i64 0,.i .i64 0,.i .i64 0]
def get147:BI:=fun vs me nx=>match vs with
 | [.p i 0,.i .i64 (.ofNat a)]=>match T.get i me with
  | some (.st m rev most _)=>bif inS m a then (match nth rev (Nat.sub m a) with
   | some cd=>bif Nat.beq cd 0 then .no else .ret (.t [decC cd,.b true]) me nx
   | none=>.no) else .ret (.t [tmZ,.b false]) me nx
  | _=>.no
 | _=>.no
def len9:BI:=fun vs me nx=>match vs with
 | [.p i 0]=>match T.get i me with
  | some (.st m rev most _)=>.ret (er m) me nx
  | _=>.no
 | _=>.no
def is131:BI:=fun vs me nx=>match vs with
 | [.p i 0,.i .i64 (.ofNat a)]=>match T.get i me with
  | some (.st m rev most _)=>.ret (.b (inS m a)) me nx
  | _=>.no
 | _=>.no
def new49:BI:=fun vs me nx=>match vs with
 | [.i .i64 (.ofNat n)]=>bif (bif Nat.beq n 5000 then true else Nat.beq n 65536) then .ret (.t [.p (Pos.succ (Pos.succ (Pos.succ nx))) 0,er 0]) (T.put (Pos.succ (Pos.succ (Pos.succ nx))) (some (.st 0 [] n none)) me) (Pos.succ (Pos.succ (Pos.succ (Pos.succ nx)))) else .no
 | _=>.no
def must104:BI:=fun vs me nx=>match vs with
 | [.i .i64 (.ofNat e)]=>bif Nat.beq e 0 then .ret (.t []) me nx else .pan (er e) me nx
 | _=>.no
def uu (n:Nat):SV:=.i .u64 (.ofNat n)
def fdN (lo hi:Nat) (i:Pos) (o:Nat):List SV:=[uu lo,uu hi,.p i o,.pn,.pn]
def fdI (lo hi:Nat) (i:Pos) (o:Nat):List SV:=[uu lo,uu hi,.pn,.p i o,.pn]
def fdT (i:Pos) (o:Nat):List SV:=[uu 0,uu 0,.pn,.pn,.p i o]
def fd1 (i:Pos) (o:Nat):List SV:=fdN 1 4294967296 i o
def fd2 (i:Pos) (o:Nat):List SV:=fdI 1 1048576 i o
def fieldsOf (k:Nat) (i:Pos) (o:Nat):Option (Nat × List SV):=match k with
 | 1=>some (8,app (fd1 i (Nat.add o 1)) (app (fdT i (Nat.add o 3)) (app (fdI 0 1 i (Nat.add o 4)) (app (fd2 i (Nat.add o 6)) (app (fd2 i (Nat.add o 7)) (app (fd2 i (Nat.add o 8)) (app (fd2 i (Nat.add o 9)) (fd2 i (Nat.add o 10)))))))))
 | 2=>some (5,app (fd1 i (Nat.add o 1)) (app (fd1 i (Nat.add o 2)) (app (fd2 i (Nat.add o 6)) (app (fd2 i (Nat.add o 8)) (fd2 i (Nat.add o 9))))))
 | 3=>some (2,app (fd1 i (Nat.add o 2)) (fdI 1 15 i (Nat.add o 5)))
 | 4=>some (4,app (fd1 i (Nat.add o 2)) (app (fdN 0 1000 i (Nat.add o 11)) (app (fdN 0 255 i (Nat.add o 12)) (fd2 i (Nat.add o 9)))))
 | _=>none
def fields73:BI:=fun vs me nx=>match vs with
 | [.p i o]=>match cellsOf me i with
  | some cs=>match nth cs o with
   | some (.i .i64 (.ofNat k))=>match fieldsOf k i o with
    | some (n,l)=>.ret (.sr nx n) (T.put nx (some (.r 188 5 l)) me) (Pos.succ nx)
    | none=>.ret .sn me nx
   | _=>.no
  | none=>.no
 | _=>.no
def cut68:BI:=fun vs me nx=>match vs with
 | [.s n v,.i .u64 (.ofNat id),.i .i64 (.ofNat size)]=>bif and (and (Nat.ble 1 id) (Nat.ble id 4294967296)) (and (and (Nat.ble 1 n) (Nat.ble n size)) (Nat.ble size 1000)) then
   .ret (.t [.sr nx 1,er 0]) (T.put nx (some (.r 96 4 [.i .u64 (.ofNat id),er 0,er 1,.s n v])) me) (Pos.succ nx)
  else .no
 | _=>.no
def idxB (n v c:Nat):Int :=
 Nat.rec (motive:=fun _=>Nat→Int) (fun _=>.negSucc 0) (fun m ih i=>bif Nat.beq (Nat.mod (Nat.div v (Nat.pow 256 m)) 256) c then .ofNat i else ih (Nat.succ i)) n 0
def idx213:BI:=fun vs me nx=>match vs with
 | [.s n v,.i .u8 (.ofNat c)]=>bif Nat.blt c 256 then .ret (.i .i64 (idxB n v c)) me nx else .no
 | _=>.no
def runF (bi:T BI) (n:Nat):CL:=Nat.rec (fun _ _ _ _=>.no) (fun _ ih f vs me nx=>Option.rec (Option.rec .no (fun cf=>runK ih cf vs me nx) (T.get f fs)) (fun b=>b vs me nx) (T.get f bi)) n
def retOf (r:RF):Option SV:=match r with
 | .ret v _ _=>some v
 | _=>none
end
noncomputable section
open Go.RowKit
def gls0 (b:Nat) (l:List SV):Bool:=Nat.beq b 0 && allA l fields0
def ftab0:FT:=ftab gls0
def AllT {α:Type} (Q:Pos→α→Prop):T α→Prop
 | .e=>True
 | .n l v r=>(∀ x,v=some x→Q .h x)∧AllT (fun p=>Q (.o p)) l∧AllT (fun p=>Q (.i p)) r
theorem AllT.get {α:Type}:∀ {Q:Pos→α→Prop} {t:T α} {p:Pos} {x:α},AllT Q t→T.get p t=some x→Q p x
 | Q,.e,p,x,_,h=>by rw [T.get_e] at h; cases h
 | Q,.n l v r,.h,x,h,hg=>h.1 x hg
 | Q,.n l v r,.o p,x,h,hg=>AllT.get (Q:=fun p=>Q (.o p)) h.2.1 (show T.get p l=some x from hg)
 | Q,.n l v r,.i p,x,h,hg=>AllT.get (Q:=fun p=>Q (.i p)) h.2.2 (show T.get p r=some x from hg)
def Qf (P:Program) (F:FT) (p:Pos) (cf:CF):Prop:=∃ fn,P.funcs[p.nat - 1]?=some fn∧chkF F fn cf=true∧Enters P (p.nat - 1)
theorem mkQ {P:Program} {F:FT} {p:Pos} {cf:CF} {k:Nat} {fn:Func} (h:p.nat=k + 1) (hf:P.funcs[k]?=some fn) (hc:chkF F fn cf=true) (he:Enters P k):Qf P F p cf:=by
 refine ⟨fn,?_,hc,?_⟩
 ·rw [h]; exact hf
 ·rw [h]; exact he
structure BSnd (P:Program) (W0:World) (f:Nat) (b:BI):Prop where
 ent:Enters P f
 ret:∀ vs me nx v me' nx',b vs me nx=.ret v me' nx'→∀ (W:World) (R:List Thing) (g:G) (xs:List Value),g.fresh nx→dens (den g) vs=some xs→Sts W0 W (mem g me++R) →
  Calls P f xs.toArray W fun e w'=>∃ g' x,e=.returned x∧g.ext g' nx∧g'.fresh nx'∧nx.nat≤nx'.nat∧den g' v=some x∧Sts W0 w' (mem g' me'++R)
 pan:∀ vs me nx v me' nx',b vs me nx=.pan v me' nx'→∀ (W:World) (R:List Thing) (g:G) (xs:List Value),g.fresh nx→dens (den g) vs=some xs→Sts W0 W (mem g me++R) →
  Calls P f xs.toArray W fun e w'=>∃ g' x,e=.panicked (chain x)∧g.ext g' nx∧g'.fresh nx'∧nx.nat≤nx'.nat∧den g' v=some x∧Sts W0 w' (mem g' me'++R)
theorem runF_sound {P:Program} {W0:World} {F:FT} {bi:T BI} (hbi:AllT (fun p b=>BSnd P W0 (p.nat - 1) b) bi) (hfs:AllT (Qf P F) fs) (hF:F.Ok P W0) (hmix:P.follows .mixedOrders=true) (hE:Endd P):∀ n,SndF P W0 (runF bi n)
 | 0=>⟨fun f vs me nx v me' nx' h=>(by cases h),fun f vs me nx v me' nx' h=>(by cases h),fun f vs me nx h=>(h rfl).elim⟩
 | n + 1=>by
  have ih:=runF_sound hbi hfs hF hmix hE n
  have hrun:∀ f vs me nx,runF bi (n + 1) f vs me nx=Option.rec (motive:=fun _=>RF) (Option.rec (motive:=fun _=>RF) .no (fun cf=>runK (runF bi n) cf vs me nx) (T.get f fs)) (fun b=>b vs me nx) (T.get f bi):=fun _ _ _ _=>rfl
  refine ⟨fun f vs me nx v me' nx' h=>?_,fun f vs me nx v me' nx' h=>?_,fun f vs me nx h=>?_⟩
  ·rw [hrun] at h
   cases hb:T.get f bi with
   | some b=>rw [hb] at h; exact (hbi.get hb).ret _ _ _ _ _ _ h
   | none =>
    rw [hb] at h
    cases hf:T.get f fs with
    | none=>rw [hf] at h; cases h
    | some cf =>
     rw [hf] at h
     obtain ⟨fn,h1,h2,h3⟩:=hfs.get hf
     intro W R g xs hfr hd hm
     refine fn_calls ih hF hmix hE h1 h2 h (by intro e; cases e) W xs hfr hd hm (fun v' m n e g' x w' k1 k2 k3 k4 k5=>?_) (fun v' m n e=>by cases e)
     injection e with e1 e2 e3; subst e1; subst e2; subst e3
     exact ⟨g',x,rfl,k1,k2,k3,k4,k5⟩
  ·rw [hrun] at h
   cases hb:T.get f bi with
   | some b=>rw [hb] at h; exact (hbi.get hb).pan _ _ _ _ _ _ h
   | none =>
    rw [hb] at h
    cases hf:T.get f fs with
    | none=>rw [hf] at h; cases h
    | some cf =>
     rw [hf] at h
     obtain ⟨fn,h1,h2,h3⟩:=hfs.get hf
     intro W R g xs hfr hd hm
     refine fn_calls ih hF hmix hE h1 h2 h (by intro e; cases e) W xs hfr hd hm (fun v' m n e=>by cases e) (fun v' m n e g' x w' k1 k2 k3 k4 k5=>?_)
     injection e with e1 e2 e3; subst e1; subst e2; subst e3
     exact ⟨g',x,rfl,k1,k2,k3,k4,k5⟩
  ·rw [hrun] at h
   cases hb:T.get f bi with
   | some b=>exact (hbi.get hb).ent
   | none =>
    rw [hb] at h
    cases hf:T.get f fs with
    | none=>rw [hf] at h; exact (h rfl).elim
    | some cf=>exact (hfs.get hf).elim fun fn hh=>hh.2.2
end
end EV
end Go.Proofs.YtadggjnohohedaaGreatDoor
namespace Go.Proofs.YtadggjnohohedaaGreatDoor
section
open Go.RowKit
set_option maxRecDepth 100000
theorem strs_of_tab {H:Type} {enc:TypeId × Value→H} {P:Program} {w:World} {base:Nat} {sp:Nat→Bool} {held:Bool} {fuel:Nat} {t e:TypeId} {n:Nat} {cs:List Value} {zs:List (List UInt8)} {p:List MemPlace}
  (ht:P.underlying t=some (.array n e)) (he:P.underlying e=some .string) (hce:P.cellsOf e=1) (hct:P.cellsOf t=n)
  (h:DataW.trod enc P w base sp held fuel t cs=some (.agg (zs.map fun z=>.lit (.string z)),p)):cs=zs.map fun z=>Value.string ⟨z.toArray⟩:=by
 cases fuel with
 | zero=>simp [DataW.trod] at h
 | succ fuel =>
  simp only [DataW.trod,ht,hce,hct,Nat.mul_one] at h
  split at h
  ·rename_i hl
   obtain ⟨xs,hm,hx⟩:=Option.map_eq_some_iff.1 h
   have hxs:xs.map (·.1)=zs.map fun z=>(DataW.lit (.string z):DataW H):=by
    have:=congrArg Prod.fst hx
    simpa using this
   have hxl:xs.length=n:=by simpa using Lib.mapM_length hm
   have hzl:zs.length=n:=by
    have:=congrArg List.length hxs
    simp at this
    omega
   apply List.ext_getElem?
   intro i
   by_cases hi:i < n
   ·obtain ⟨b,hb,hf⟩:=Lib.mapM_at hm i i (by simp [hi])
    obtain ⟨z,hc,rfl,_⟩:=DataW.trod_string he hf
    have h1:cs[i]?=some (.string z):=by
     have:=congrArg (·[0]?) hc
     simpa [List.getElem?_take,List.getElem?_drop] using this
    have h2:(xs.map (·.1))[i]?=some (DataW.lit (.string z.data.toList):DataW H):=by simp [hb]
    rw [hxs] at h2
    simp only [List.getElem?_map,Option.map_eq_some_iff,DataW.lit.injEq,Lit.string.injEq] at h2
    obtain ⟨z',hz',rfl⟩:=h2
    simp [h1,hz']
   ·rw [List.getElem?_eq_none (by omega),List.getElem?_eq_none (by simp; omega)]
  ·cases h
theorem gFields : Tryz.prog.globalNamed "sough/script.fields" = some 0 := by kernel_rfl
def fieldsB:List (List UInt8):=[[65,66,67],[78,67,65,66],[65,66,83],[65,66],[65,66,67],[78],[65,66,83],[68,65,66,67,78,83],[65],[78]]
theorem fields_laid {W : World} (h : laidMetH Tryz.prog Rows.topTampersRow.laid W) : W.var? Tryz.prog "sough/script.fields" = some (fieldsB.map fun z => Value.string ⟨z.toArray⟩).toArray := by
 have h:laidMet Tryz.prog Rows.topTampersRow.laid W:=h
 obtain ⟨ps,hl,_⟩:=h
 obtain ⟨_,_,_,_,_,q1,_,_,_,_,hl1,_⟩:=hl
 obtain ⟨_,_,_,_,_,q2,_,_,_,_,hl2,_⟩:=hl1
 obtain ⟨_,_,_,_,_,q3,_,_,_,_,hl3,_⟩:=hl2
 obtain ⟨g,t,cs,fuel,p,q,hg,hty,hvar,hd,_,_⟩:=hl3
 obtain rfl:=Option.some.inj (gFields.symm.trans hg)
 obtain ⟨t',e,ht',hu,he,hce,hct⟩:∃ t e,(Tryz.prog.globals[0]?).map (·.type)=some t∧Tryz.prog.underlying t=some (.array 10 e)∧Tryz.prog.underlying e=some .string∧Tryz.prog.cellsOf e=1∧Tryz.prog.cellsOf t=10:=by
  refine ⟨322,9,by kernel_rfl,Tryz.underlying322,Tryz.underlying9,by kernel_rfl,by kernel_rfl⟩
 obtain rfl:=Option.some.inj (ht'.symm.trans hty)
 have:=strs_of_tab (zs:=fieldsB) hu he hce hct hd
 rw [hvar,← this]
namespace EV
theorem fields_den:∀ (o:Nat) (v:SV),fields0[o]?=some v→∃ z:List UInt8,fieldsB[o]?=some z∧∀ g,den1 g v=some (.string ⟨z.toArray⟩):=by
 intro o v h
 match o,h with
 | 0,h=>injection h with h; subst h; exact ⟨_,rfl,fun g=>rfl⟩
 | 1,h=>injection h with h; subst h; exact ⟨_,rfl,fun g=>rfl⟩
 | 2,h=>injection h with h; subst h; exact ⟨_,rfl,fun g=>rfl⟩
 | 3,h=>injection h with h; subst h; exact ⟨_,rfl,fun g=>rfl⟩
 | 4,h=>injection h with h; subst h; exact ⟨_,rfl,fun g=>rfl⟩
 | 5,h=>injection h with h; subst h; exact ⟨_,rfl,fun g=>rfl⟩
 | 6,h=>injection h with h; subst h; exact ⟨_,rfl,fun g=>rfl⟩
 | 7,h=>injection h with h; subst h; exact ⟨_,rfl,fun g=>rfl⟩
 | 8,h=>injection h with h; subst h; exact ⟨_,rfl,fun g=>rfl⟩
 | 9,h=>injection h with h; subst h; exact ⟨_,rfl,fun g=>rfl⟩
 | n + 10,h=>cases h
theorem fields_ok {W:World} (h:laidMetH Tryz.prog Rows.topTampersRow.laid W):ftab0.Ok Tryz.prog W:=by
 refine ftab_ok gls0 (fun b l hb o v ho=>?_)
 have hb':(Nat.beq b 0 && allA l fields0)=true:=hb
 simp only [Bool.and_eq_true] at hb'
 have e1:=Nat.eq_of_beq_eq_true hb'.1
 have e2:=allA_eq eqA_eq hb'.2
 subst e1; subst e2
 obtain ⟨z,h1,h2⟩:=fields_den o v ho
 refine ⟨_,h2,?_⟩
 rw [World.var?_cell gFields (fields_laid h) o]
 simp [h1]
end EV
end
end Go.Proofs.YtadggjnohohedaaGreatDoor
namespace Go.Proofs.YtadggjnohohedaaGreatDoor
namespace EV
noncomputable section
open Go.RowKit
variable {W0 W:World} {R:List Thing} {g:G} {me:T Ob} {nx:Pos}
theorem st_out {i:Pos} {m most:Nat} {rev:List Nat} {F:Option (List Nat)} (hm:Sts W0 W (mem g me++R)) (hg:T.get i me=some (.st m rev most F)) :
  ∃ b o l,g.rho i=some (b,o)∧Codes F rev l.reverse∧l.length=m∧most≤65536∧Sts W0 W (Go.Proofs.YtadggjnohohedaaGreatDoor.St b l most::(mem g (T.put i none me)++R)):=by
 obtain ⟨x,k1⟩:=(mout hm hg).of_some
 obtain ⟨⟨k2,k3,k4,k5⟩,k6⟩:=k1.of_both.of_fact
 exact ⟨x.1,x.2.1,x.2.2,k2,k3,k4,k5,k6⟩
theorem st_in {i:Pos} {m most:Nat} {rev:List Nat} {F:Option (List Nat)} {b o:Nat} {l:List Tm} (h1:g.rho i=some (b,o)) (h2:Codes F rev l.reverse) (h3:l.length=m) (h4:most≤65536) (hs:Sts W0 W (Go.Proofs.YtadggjnohohedaaGreatDoor.St b l most::(mem g (T.put i none me)++R))) :
  Sts W0 W (mem g (T.put i (some (.st m rev most F)) me)++R):=mback (Sts.to_some (b,o,l) (Sts.to_both (Sts.to_fact ⟨h1,h2,h3,h4⟩ hs)))
theorem st_back {i:Pos} {o:Ob} (hg:T.get i me=some o) (hs:Sts W0 W (mem g (T.put i (some o) me)++R)):Sts W0 W (mem g me++R):=by
 refine hs.perm (List.Perm.append_right R ?_)
 exact mem_put.trans (mem_get hg).symm
theorem len9_ok:BSnd Tryz.prog W0 9 len9:=by
 refine ⟨en9,fun vs me nx v me' nx' h W R g xs hf hx hm=>?_,fun vs me nx v me' nx' h=>?_⟩
 ·unfold len9 at h
  split at h
  ·rename_i i
   split at h
   ·rename_i m rev most F hg
    injection h with h1 h2 h3; subst h1; subst h2; subst h3
    obtain ⟨x,us,d1,d2,rfl⟩:=dens_cons hx
    have:us=[]:=by simpa [dens] using d2.symm
    subst this
    obtain ⟨q,q1,rfl⟩:=den_p d1
    obtain ⟨b,o,l,r1,r2,r3,r4,r5⟩:=st_out hm hg
    obtain rfl:q=(b,o):=by rw [q1] at r1; exact Option.some.inj r1
    refine Calls.mono (len_fn b l most W0 W _ r5) (fun e w' ⟨h1,h2⟩=>⟨g,.int .i64 (l.length:Nat),h1,G.ext.refl _ _,hf,Nat.le_refl _,by rw [r3]; rfl,?_⟩)
    exact st_back hg (st_in r1 r2 r3 r4 h2)
   ·cases h
  ·cases h
 ·unfold len9 at h
  split at h
  ·split at h <;> cases h
  ·cases h
theorem inS_is {l:List Tm} {m a:Nat} (h:l.length=m):isT l (Int.ofNat a)=inS m a:=by
 unfold isT inS
 subst h
 have e1:decide (1≤Int.ofNat a)=Nat.blt 0 a:=by
  cases hb:Nat.blt 0 a with
  | true=>have:0 < a:=Nat.le_of_ble_eq_true hb; simp; omega
  | false =>
   have:¬ 0 < a:=fun hc=>by rw [show Nat.blt 0 a=true from Nat.ble_eq_true_of_le hc] at hb; cases hb
   simp; omega
 have e2:decide (Int.ofNat a≤(l.length:Int))=Nat.ble a l.length:=by
  cases hb:Nat.ble a l.length with
  | true=>have:=Nat.le_of_ble_eq_true hb; simp; omega
  | false =>
   have:¬ a≤l.length:=fun hc=>by rw [Nat.ble_eq_true_of_le hc] at hb; cases hb
   simp; omega
 rw [e1,e2]
theorem is131_ok:BSnd Tryz.prog W0 131 is131:=by
 refine ⟨en131,fun vs me nx v me' nx' h W R g xs hf hx hm=>?_,fun vs me nx v me' nx' h=>?_⟩
 ·unfold is131 at h
  split at h
  ·rename_i i a
   split at h
   ·rename_i m rev most F hg
    injection h with h1 h2 h3; subst h1; subst h2; subst h3
    obtain ⟨x,us,d1,d2,rfl⟩:=dens_cons hx
    obtain ⟨y,us,d3,d4,rfl⟩:=dens_cons d2
    have:us=[]:=by simpa [dens] using d4.symm
    subst this
    have:=den_i d3; subst this
    obtain ⟨q,q1,rfl⟩:=den_p d1
    obtain ⟨b,o,l,r1,r2,r3,r4,r5⟩:=st_out hm hg
    obtain rfl:q=(b,o):=by rw [q1] at r1; exact Option.some.inj r1
    refine Calls.mono (is_fn b l most (Int.ofNat a) W0 W _ r5) (fun e w' ⟨h1,h2⟩=>⟨g,.bool (isT l (Int.ofNat a)),h1,G.ext.refl _ _,hf,Nat.le_refl _,by rw [inS_is r3]; rfl,?_⟩)
    exact st_back hg (st_in r1 r2 r3 r4 h2)
   ·cases h
  ·cases h
 ·unfold is131 at h
  split at h
  ·split at h <;> cases h
  ·cases h
end
noncomputable section
open Go.RowKit
variable {W0 W:World} {R:List Thing} {g:G} {me:T Ob} {nx:Pos}
theorem fN_eq {R:Type} (n:Nat) (k:Nat→R):fN n k=k n:=by cases n <;> rfl
theorem dm_mod {m k r:Nat} (h:k < m):Nat.mod (k + m * r) m=k:=by
 show (k + m * r) % m=k
 rw [Nat.add_mul_mod_self_left,Nat.mod_eq_of_lt h]
theorem dm_div {m k r:Nat} (h:k < m):Nat.div (k + m * r) m=r:=by
 show (k + m * r) / m=r
 rw [Nat.add_mul_div_left _ _ (by omega),Nat.div_eq_of_lt h,Nat.zero_add]
theorem decC_den {t:Tm} {c:Nat} (h:codeT t c):den2 g (decC c)=some (tval t):=by
 obtain ⟨kind,sl,sv,n,a,b,d,rfl,h1,h2,h3,h4,h5,h6,h7,h8,rfl⟩:=h
 unfold decC
 simp only [fN_eq,dm_mod h2,dm_div h2,dm_mod h4,dm_div h4,dm_mod h5,dm_div h5,dm_mod h6,dm_div h6,dm_mod h7,dm_div h7,dm_mod h8,dm_div h8]
 simp [den2,dens,den1,den0,h1,tval]
theorem codeT_inj {t u:Tm} {c:Nat} (h1:codeT t c) (h2:codeT u c):t=u:=by
 have e1:=decC_den (g:=⟨fun _=>none,0,0,by decide,by decide⟩) h1
 have e2:=decC_den (g:=⟨fun _=>none,0,0,by decide,by decide⟩) h2
 rw [e1] at e2
 injection e2 with e2
 cases t; cases u
 simp [tval] at e2
 simp [e2]
theorem codeT_fun {t:Tm} {c d:Nat} (h1:codeT t c) (h2:codeT t d):c=d:=by
 obtain ⟨kind,sl,sv,n,a,b,e,rfl,g1,g2,g3,g4,g5,g6,g7,g8,rfl⟩:=h1
 obtain ⟨kind',sl',sv',n',a',b',e',ht,k1,k2,k3,k4,k5,k6,k7,k8,rfl⟩:=h2
 injection ht with t1 t2 t3 t4 t5 t6
 have hs:=seq_eq g1 k1
 rw [t2] at hs
 simp only [decide_true] at hs
 unfold seq at hs
 cases hb:Nat.beq sl sl' with
 | false=>rw [hb] at hs; cases hs
 | true =>
  rw [hb] at hs
  have e1:=Nat.eq_of_beq_eq_true hb
  have e2:=Nat.eq_of_beq_eq_true hs
  obtain rfl:kind=kind':=by omega
  obtain rfl:n=n':=by omega
  obtain rfl:a=a':=by omega
  obtain rfl:b=b':=by omega
  obtain rfl:e=e':=by omega
  subst e1; subst e2; rfl
theorem codes_at {F:Option (List Nat)}:∀ {rev:List Nat} {L:List Tm} {j cd:Nat},Codes F rev L→rev[j]?=some cd→cd≠0→∃ t,L[j]?=some t∧codeT t cd
 | _,_,j,cd,.nil,h,_=>by simp at h
 | _,_,0,cd,.known h hs,h',_=>by simp at h'; subst h'; exact ⟨_,rfl,h⟩
 | _,_,j + 1,cd,.known h hs,h',hn=>by simpa using codes_at hs (by simpa using h') hn
 | _,_,0,cd,.junk hF h hs,h',hn=>by simp at h'; exact (hn h'.symm).elim
 | _,_,j + 1,cd,.junk hF h hs,h',hn=>by simpa using codes_at hs (by simpa using h') hn
theorem rev_at {l:List Tm} {a:Nat} (h1:1≤a) (h2:a≤l.length):l.reverse[l.length - a]?=l[a - 1]?:=by
 rw [List.getElem?_reverse (by omega)]
 congr 1; omega
theorem get147_ok:BSnd Tryz.prog W0 147 get147:=by
 refine ⟨en147,fun vs me nx v me' nx' h W R g xs hf hx hm=>?_,fun vs me nx v me' nx' h=>?_⟩
 ·unfold get147 at h
  split at h
  ·rename_i i a
   split at h
   ·rename_i m rev most F hg
    obtain ⟨x,us,d1,d2,rfl⟩:=dens_cons hx
    obtain ⟨y,us,d3,d4,rfl⟩:=dens_cons d2
    have:us=[]:=by simpa [dens] using d4.symm
    subst this
    have:=den_i d3; subst this
    obtain ⟨q,q1,rfl⟩:=den_p d1
    obtain ⟨b,o,l,r1,r2,r3,r4,r5⟩:=st_out hm hg
    obtain rfl:q=(b,o):=by rw [q1] at r1; exact Option.some.inj r1
    have key:∀ vv,den2 g vv=some (tval (getT l (Int.ofNat a)))→RF.ret (.t [vv,.b (isT l (Int.ofNat a))]) me nx=RF.ret v me' nx'→Calls Tryz.prog 147 [Value.pointer (some ⟨b,0,none⟩),.int .i64 (Int.ofNat a)].toArray W fun e w'=>∃ g' x,e=.returned x∧g.ext g' nx∧g'.fresh nx'∧nx.nat≤nx'.nat∧den g' v=some x∧Sts W0 w' (mem g' me'++R):=by
     intro vv hvv hr
     injection hr with h1 h2 h3; subst h1; subst h2; subst h3
     refine Calls.mono (get_fn b l most (Int.ofNat a) W0 W _ r5) (fun e w' ⟨h1,h2⟩=>⟨g,_,h1,G.ext.refl _ _,hf,Nat.le_refl _,den_t' (dens_mk hvv (dens_mk rfl rfl)),?_⟩)
     exact st_back hg (st_in r1 r2 r3 r4 h2)
    cases hi:inS m a with
    | false =>
     rw [hi] at h; simp only [cond_false] at h
     have hT:=inS_is (a:=a) r3
     rw [hi] at hT
     refine key tmZ ?_ (by rw [hT]; exact h)
     have:getT l (Int.ofNat a)=tm0:=by
      unfold getT
      rw [if_neg]
      intro hc
      unfold isT at hT
      simp only [Bool.and_eq_false_iff,decide_eq_false_iff_not] at hT
      rcases hT with hT | hT
      ·exact hT hc.1
      ·exact hT hc.2
     rw [this]; rfl
    | true =>
     rw [hi] at h; simp only [cond_true] at h
     have hT:=inS_is (a:=a) r3
     rw [hi] at hT
     have hb:1≤a∧a≤l.length:=by
      unfold inS at hi
      simp only [Bool.and_eq_true] at hi
      have h1:=Nat.le_of_ble_eq_true hi.1
      have h2:=Nat.le_of_ble_eq_true hi.2
      omega
     split at h
     ·rename_i cd hcd
      cases hz:Nat.beq cd 0 with
      | true=>rw [hz] at h; cases h
      | false =>
       rw [hz] at h; simp only [cond_false] at h
       have hcd0:cd≠0:=fun e=>by rw [e] at hz; cases hz
       rw [nth_eq] at hcd
       obtain ⟨t,ht,hct⟩:=codes_at r2 hcd hcd0
       have hma:Nat.sub m a=l.length - a:=by rw [r3]; rfl
       rw [hma,rev_at hb.1 hb.2] at ht
       refine key (decC cd) ?_ (by rw [hT]; exact h)
       rw [decC_den hct]
       have:getT l (Int.ofNat a)=t:=by
        unfold getT
        rw [if_pos ⟨by simp; omega,by simp; omega⟩]
        have:(Int.ofNat a).toNat=a:=rfl
        rw [this,List.getD_eq_getElem?_getD,ht]; rfl
       rw [this]
     ·cases h
   ·cases h
  ·cases h
 ·unfold get147 at h
  split at h
  ·split at h
   ·rename_i m rev most F hg
    cases hi:inS m _ with
    | false=>rw [hi] at h; cases h
    | true =>
     rw [hi] at h; simp only [cond_true] at h
     split at h
     ·rename_i cd hcd
      cases hz:Nat.beq cd 0 with
      | true=>rw [hz] at h; cases h
      | false=>rw [hz] at h; cases h
     ·cases h
   ·cases h
  ·cases h
end
noncomputable section
open Go.RowKit
variable {W0 W:World} {R:List Thing} {g:G} {me:T Ob} {nx:Pos}
theorem byt_nil {n v:Nat}:(byt n v=⟨#[]⟩)↔n=0:=by
 constructor
 ·intro h
  have:=byt_size n v
  rw [h] at this
  exact this.symm
 ·rintro rfl; rfl
theorem beq_dec {a b:Nat}:Nat.beq a b=decide (a=b):=by
 cases h:Nat.beq a b with
 | true=>simp [Nat.eq_of_beq_eq_true h]
 | false =>
  have:a≠b:=fun e=>by subst e; simp at h
  simp [this]
theorem ble_dec {a b:Nat}:Nat.ble a b=decide (a≤b):=by
 cases h:Nat.ble a b with
 | true=>simp [Nat.le_of_ble_eq_true h]
 | false =>
  have:¬ a≤b:=fun e=>by rw [Nat.ble_eq_true_of_le e] at h; cases h
  simp [this]
theorem blt_dec {a b:Nat}:Nat.blt a b=decide (a < b):=ble_dec
theorem may_eq {l:List Tm} {m kind sl sv n a b c:Nat} (h:l.length=m):(Tm.mk kind (byt sl sv) n a b c).may l=mayC m kind sl n a b c:=by
 subst h
 have hsz:=byt_size sl sv
 have hnil:(byt sl sv=⟨#[]⟩)↔sl=0:=byt_nil
 match kind with
 | 0=>simp [Tm.may,mayC]
 | 1=>rw [Bool.eq_iff_iff]; simp [Tm.may,Tm.only,Tm.parts,mayC,inS,beq_dec,ble_dec,blt_dec,hsz,hnil]; omega
 | 2=>rw [Bool.eq_iff_iff]; simp [Tm.may,Tm.only,Tm.parts,mayC,inS,beq_dec,ble_dec,blt_dec,hsz,hnil]; omega
 | 3=>rw [Bool.eq_iff_iff]; simp [Tm.may,Tm.only,Tm.parts,mayC,inS,beq_dec,ble_dec,blt_dec,hsz,hnil]; omega
 | 4=>rw [Bool.eq_iff_iff]; simp [Tm.may,Tm.only,Tm.parts,mayC,inS,beq_dec,ble_dec,blt_dec,hsz,hnil]; omega
 | 5=>rw [Bool.eq_iff_iff]; simp [Tm.may,Tm.only,Tm.parts,mayC,inS,beq_dec,ble_dec,blt_dec,hsz,hnil]; omega
 | 6=>rw [Bool.eq_iff_iff]; simp [Tm.may,Tm.only,Tm.parts,mayC,inS,beq_dec,ble_dec,blt_dec,hsz,hnil]; omega
 | 7=>rw [Bool.eq_iff_iff]; simp [Tm.may,Tm.only,Tm.parts,mayC,inS,beq_dec,ble_dec,blt_dec,hsz,hnil]; omega
 | 8=>rw [Bool.eq_iff_iff]; simp [Tm.may,Tm.only,Tm.parts,mayC,inS,beq_dec,ble_dec,blt_dec,hsz,hnil]; omega
 | 9=>rw [Bool.eq_iff_iff]; simp [Tm.may,Tm.only,Tm.parts,mayC,inS,beq_dec,ble_dec,blt_dec,hsz,hnil]; omega
 | 10=>rw [Bool.eq_iff_iff]; simp [Tm.may,Tm.only,Tm.parts,mayC,inS,beq_dec,ble_dec,blt_dec,hsz,hnil]; omega
 | 11=>rw [Bool.eq_iff_iff]; simp [Tm.may,Tm.only,Tm.parts,mayC,inS,beq_dec,ble_dec,blt_dec,hsz,hnil]; omega
 | k + 12=>simp [Tm.may,mayC]; omega
theorem find_codes {F:Option (List Nat)} {t:Tm} {cd:Nat} (hc:codeT t cd) (h0:cd≠0):∀ {rev:List Nat} {L:List Tm} {n:Nat},Codes F rev L→inF cd F=true→L.length=n →
  (∀ j,L.findIdx? (·=t)=some j→findC cd rev n=n - j∧j < n)∧(L.findIdx? (·=t)=none→findC cd rev n=0)
 | _,_,n,.nil,_,hn=>⟨fun j h=>by simp at h,fun _=>rfl⟩
 | _,_,n,.known (c:=c') (t:=t') (r:=r) (l:=l) h hs,hF,hn=>by
  have hf:findC cd (c'::r) n=bif Nat.beq c' cd then n else findC cd r (Nat.pred n):=rfl
  obtain ⟨i1,i2⟩:=find_codes hc h0 (n:=Nat.pred n) hs hF (by rw [← hn]; rfl)
  by_cases e:t'=t
  ·subst e
   have:=codeT_fun h hc; subst this
   refine ⟨fun j hj=>?_,fun hj=>?_⟩
   ·simp [List.findIdx?_cons] at hj
    subst hj
    rw [hf,beq_dec]; simp at hn ⊢; omega
   ·simp [List.findIdx?_cons] at hj
  ·have hne:c'≠cd:=fun e'=>by subst e'; exact e (codeT_inj h hc)
   rw [hf,beq_dec]; simp only [hne,decide_false,cond_false]
   refine ⟨fun j hj=>?_,fun hj=>?_⟩
   ·simp [List.findIdx?_cons,e] at hj
    obtain ⟨j',hj',rfl⟩:=hj
    obtain ⟨k1,k2⟩:=i1 j' hj'
    rw [k1]
    simp at hn k2 ⊢
    omega
   ·simp [List.findIdx?_cons,e] at hj
    exact i2 (by simpa using hj)
 | _,_,n,.junk (t:=t') (r:=r) (l:=l) (L:=LL) hF' h hs,hF,hn=>by
  have hf:findC cd (0::r) n=bif Nat.beq 0 cd then n else findC cd r (Nat.pred n):=rfl
  obtain ⟨i1,i2⟩:=find_codes hc h0 (n:=Nat.pred n) hs hF (by rw [← hn]; rfl)
  have hmem:cd∈LL:=by
   subst hF'
   have hF2:memC cd LL=true:=hF
   clear hF h i1 i2 hs hf
   induction LL with
   | nil=>cases hF2
   | cons x r ih =>
    have h':(bif Nat.beq x cd then true else memC cd r)=true:=hF2
    cases hb:Nat.beq x cd with
    | true=>rw [Nat.eq_of_beq_eq_true hb]; simp
    | false=>rw [hb] at h'; exact List.mem_cons_of_mem _ (ih h')
  have e:t'≠t:=fun e=>by subst e; exact h cd hmem hc
  rw [hf,beq_dec]; simp only [Ne.symm h0,decide_false,cond_false]
  refine ⟨fun j hj=>?_,fun hj=>?_⟩
  ·simp [List.findIdx?_cons,e] at hj
   obtain ⟨j',hj',rfl⟩:=hj
   obtain ⟨k1,k2⟩:=i1 j' hj'
   rw [k1]
   simp at hn k2 ⊢
   omega
  ·simp [List.findIdx?_cons,e] at hj
   exact i2 (by simpa using hj)
theorem may_small {l:List Tm} {m kind sl n a b c:Nat} (hm:m≤2000000) (h:mayC m kind sl n a b c=true):kind < 16∧kind≠0∧a < 2097152∧b < 2097152∧c < 2097152∧sl < 1024:=by
 match kind,h with
 | 0,h=>simp [mayC] at h
 | 1,h=>simp [mayC,inS,beq_dec,ble_dec,blt_dec] at h; omega
 | 2,h=>simp [mayC,inS,beq_dec,ble_dec,blt_dec] at h; omega
 | 3,h=>simp [mayC,inS,beq_dec,ble_dec,blt_dec] at h; omega
 | 4,h=>simp [mayC,inS,beq_dec,ble_dec,blt_dec] at h; omega
 | 5,h=>simp [mayC,inS,beq_dec,ble_dec,blt_dec] at h; omega
 | 6,h=>simp [mayC,inS,beq_dec,ble_dec,blt_dec] at h; omega
 | 7,h=>simp [mayC,inS,beq_dec,ble_dec,blt_dec] at h; omega
 | 8,h=>simp [mayC,inS,beq_dec,ble_dec,blt_dec] at h; omega
 | 9,h=>simp [mayC,inS,beq_dec,ble_dec,blt_dec] at h; omega
 | 10,h=>simp [mayC,inS,beq_dec,ble_dec,blt_dec] at h; omega
 | 11,h=>simp [mayC,inS,beq_dec,ble_dec,blt_dec] at h; omega
 | k + 12,h=>simp [mayC] at h
theorem find_rev {l:List Tm} {t:Tm} (hn:l.Nodup):(∀ i,l.findIdx? (·=t)=some i→l.reverse.findIdx? (·=t)=some (l.length - 1 - i)∧i < l.length)∧(l.findIdx? (·=t)=none→l.reverse.findIdx? (·=t)=none):=by
 refine ⟨fun i hi=>?_,fun hi=>?_⟩
 ·rw [List.findIdx?_eq_some_iff_getElem] at hi
  obtain ⟨hlt,he,_⟩:=hi
  simp only [decide_eq_true_eq] at he
  refine ⟨?_,hlt⟩
  rw [List.findIdx?_eq_some_iff_getElem]
  have hlr:l.length - 1 - i < l.reverse.length:=by simp; omega
  refine ⟨hlr,?_,fun j hj=>?_⟩
  ·simp only [List.getElem_reverse,decide_eq_true_eq]
   have:l.length - 1 - (l.length - 1 - i)=i:=by omega
   simp only [this,he]
  ·simp only [List.getElem_reverse,decide_eq_true_eq]
   intro hc
   have hp:=List.pairwise_iff_getElem.1 hn i (l.length - 1 - j) hlt (by omega) (by omega)
   exact hp (he.trans hc.symm)
 ·rw [List.findIdx?_eq_none_iff] at hi ⊢
  intro x hx
  exact hi x (by simpa using hx)
theorem put25_ok:BSnd Tryz.prog W0 25 put25:=by
 refine ⟨en25,fun vs me nx v me' nx' h W R g xs hf hx hm=>?_,fun vs me nx v me' nx' h=>?_⟩
 ·unfold put25 at h
  split at h
  ·rename_i i kind sl sv n a b c
   split at h
   ·rename_i m rev most F hg
    cases hck:(and (Nat.blt n 18446744073709551616) (bif mayC m kind sl n a b c then inF (codeOf kind sl sv n a b c) F else true)) with
    | false=>rw [hck] at h; cases h
    | true =>
    rw [hck] at h; simp only [cond_true] at h
    simp only [Bool.and_eq_true] at hck
    have hn64:n < 18446744073709551616:=Nat.le_of_ble_eq_true hck.1
    obtain ⟨x,us,d1,d2,rfl⟩:=dens_cons hx
    obtain ⟨y,us,d3,d4,rfl⟩:=dens_cons d2
    have:us=[]:=by simpa [dens] using d4.symm
    subst this
    obtain ⟨hsv,rfl⟩:sv < 256 ^ sl∧y=tval ⟨kind,byt sl sv,n,a,b,c⟩:=by
     obtain ⟨ys,k1,rfl⟩:=den_a d3
     obtain ⟨_,_,a1,k2,rfl⟩:=dens_cons k1
     obtain ⟨_,_,a2,k3,rfl⟩:=dens_cons k2
     obtain ⟨_,_,a3,k4,rfl⟩:=dens_cons k3
     obtain ⟨_,_,a4,k5,rfl⟩:=dens_cons k4
     obtain ⟨_,_,a5,k6,rfl⟩:=dens_cons k5
     obtain ⟨_,_,a6,k7,rfl⟩:=dens_cons k6
     have e0:=(Option.some.inj k7).symm
     obtain ⟨l1,e2⟩:=den_s (show den g (.s sl sv)=_ from a2)
     have e1:=Option.some.inj a1
     have e3:=Option.some.inj a3
     have e4:=Option.some.inj a4
     have e5:=Option.some.inj a5
     have e6:=Option.some.inj a6
     subst e0; subst e1; subst e2; subst e3; subst e4; subst e5; subst e6
     exact ⟨l1,rfl⟩
    obtain ⟨q,q1,rfl⟩:=den_p d1
    obtain ⟨bs,o,l,r1,r2,r3,r4,r5⟩:=st_out hm hg
    obtain rfl:q=(bs,o):=by rw [q1] at r1; exact Option.some.inj r1
    obtain ⟨g1,g2⟩:=st_good r5 .here
    obtain ⟨t,ht⟩:∃ t:Tm,t=⟨kind,byt sl sv,n,a,b,c⟩:=⟨_,rfl⟩
    rw [← ht]
    have hrun:=put_fn bs l most t (by omega) W0 W _ r5
    have hmay:t.may l=mayC m kind sl n a b c:=by rw [ht]; exact may_eq r3
    have key:∀ (xx ee m':Nat) (rev':List Nat) (l':List Tm),putT l most t=((xx:Int),(ee:Int),l')→Codes F rev' l'.reverse→l'.length=m'→RF.ret (.t [er xx,er ee]) (T.put i (some (.st m' rev' most F)) me) nx=RF.ret v me' nx' →
      Calls Tryz.prog 25 [Value.pointer (some ⟨bs,0,none⟩),tval t].toArray W fun e w'=>∃ g' x,e=.returned x∧g.ext g' nx∧g'.fresh nx'∧nx.nat≤nx'.nat∧den g' v=some x∧Sts W0 w' (mem g' me'++R):=by
     intro xx ee m' rev' l' hp hcs hl hr
     injection hr with h1 h2 h3; subst h1; subst h2; subst h3
     rw [hp] at hrun
     exact Calls.mono hrun (fun e w' ⟨h1,h2⟩=>⟨g,_,h1,G.ext.refl _ _,hf,Nat.le_refl _,den_t' (dens_mk rfl (dens_mk rfl rfl)),st_in r1 hcs hl r4 h2⟩)
    unfold putC at h
    cases hmc:mayC m kind sl n a b c with
    | false =>
     rw [hmc] at h; simp only [cond_false] at h
     refine key 0 1 m rev l ?_ r2 r3 h
     unfold putT; rw [hmay,hmc]; rfl
    | true =>
     rw [hmc] at h hck; simp only [cond_true,fN_eq] at h hck
     obtain ⟨c1,c2,c3,c4,c5,c6⟩:=may_small (l:=l) (by omega) hmc
     have hct:codeT t (codeOf kind sl sv n a b c):=⟨kind,sl,sv,n,a,b,c,ht,hsv,c1,c2,c3,c4,c5,hn64,c6,rfl⟩
     have hc0:codeOf kind sl sv n a b c≠0:=by
      intro e
      have:kind + 16 * (a + 2097152 * (b + 2097152 * (c + 2097152 * (n + 18446744073709551616 * (sl + 1024 * sv)))))=0:=e
      omega
     obtain ⟨f1,f2⟩:=find_codes hct hc0 (n:=m) r2 hck.2 (by simp [r3])
     obtain ⟨v1,v2⟩:=find_rev (t:=t) g2
     cases hi:l.findIdx? (·=t) with
     | some i0 =>
      obtain ⟨w1,w2⟩:=v1 i0 hi
      obtain ⟨w3,w4⟩:=f1 _ w1
      have e1:findC (codeOf kind sl sv n a b c) rev m=i0 + 1:=by rw [w3]; omega
      rw [e1] at h
      have hz:Nat.beq (i0 + 1) 0=false:=rfl
      rw [hz] at h; simp only [cond_false] at h
      refine key (i0 + 1) 0 m rev l ?_ r2 r3 h
      unfold putT; rw [hmay,hmc,if_pos rfl,hi]; simp
     | none =>
      have e1:=f2 (v2 hi)
      rw [e1] at h
      have hz:Nat.beq 0 0=true:=rfl
      rw [hz] at h; simp only [cond_true] at h
      cases hmo:Nat.ble most m with
      | true =>
       rw [hmo] at h; simp only [cond_true] at h
       have:=Nat.le_of_ble_eq_true hmo
       refine key 0 4 m rev l ?_ r2 r3 h
       unfold putT; rw [hmay,hmc,if_pos rfl,hi]
       simp only
       rw [if_pos (by omega)]; rfl
      | false =>
       rw [hmo] at h; simp only [cond_false] at h
       have hnm:¬ most≤m:=fun e=>by rw [Nat.ble_eq_true_of_le e] at hmo; cases hmo
       refine key (Nat.succ m) 0 (Nat.succ m) (codeOf kind sl sv n a b c::rev) (l++[t]) ?_ ?_ (by simp [r3]) h
       ·unfold putT; rw [hmay,hmc,if_pos rfl,hi]
        simp only
        rw [if_neg (by omega),r3]; rfl
       ·simp only [List.reverse_append,List.reverse_cons,List.reverse_nil,List.nil_append,List.singleton_append]
        exact .known hct r2
   ·cases h
  ·cases h
 ·unfold put25 at h
  split at h
  ·split at h
   ·rename_i i kind sl sv n a b c _ m rev most F hg
    cases hck:(and (Nat.blt n 18446744073709551616) (bif mayC m kind sl n a b c then inF (codeOf kind sl sv n a b c) F else true)) with
    | false=>rw [hck] at h; cases h
    | true=>rw [hck] at h; simp only [cond_true] at h; cases hq:putC m rev most kind sl sv n a b c with | mk x e m2 rev2=>rw [hq] at h; cases h
   ·cases h
  ·cases h
end
noncomputable section
open Go.RowKit
variable {W0 W:World} {R:List Thing} {g:G} {me:T Ob} {nx:Pos}
theorem must_ret (W:World):Calls Tryz.prog 104 #[.int .i64 0] W fun e w'=>e=.returned (.tuple #[])∧w'=W:=by
 refine calls_of_wp Tryz.func104 rfl ?_
 apply wp_seq
 apply wp_region
 simp [wpOps,go_sem,Tryz.ntmps104,Exit.then]
 refine .inl (.inl ?_)
 refine wp_cond_false (by simp [Act.eval,Array.replicate]) ?_
 refine wp_skip ?_
 simp [bodyPost,results,Tryz.results104]
theorem must_pan (n:Int) (hn:n≠0) (W:World):Calls Tryz.prog 104 #[.int .i64 n] W fun e w'=>e=.panicked (chain (.int .i64 n))∧w'=W:=by
 refine calls_of_wp Tryz.func104 rfl ?_
 apply wp_seq
 apply wp_region
 simp [wpOps,go_sem,Tryz.ntmps104,Exit.then]
 refine .inl (.inl ?_)
 refine wp_cond_true (by simp [Act.eval,Array.replicate,hn]) ?_
 apply wp_region
 simp [wpOps,go_sem,Exit.then]
 refine .inl (.inl (.inl (.inl ?_)))
 simp [Instr.panic,Oper.upon,bodyPost,chain,wrongV]
theorem must104_ok:BSnd Tryz.prog W0 104 must104:=by
 refine ⟨en104,fun vs me nx v me' nx' h W R g xs hf hx hm=>?_,fun vs me nx v me' nx' h W R g xs hf hx hm=>?_⟩
 ·unfold must104 at h
  split at h
  ·rename_i e
   obtain ⟨x,us,d1,d2,rfl⟩:=dens_cons hx
   have:us=[]:=by simpa [dens] using d2.symm
   subst this
   have:=den_i d1; subst this
   cases he:Nat.beq e 0 with
   | false=>rw [he] at h; cases h
   | true =>
    rw [he] at h
    have:=Nat.eq_of_beq_eq_true he; subst this
    injection h with h1 h2 h3; subst h1; subst h2; subst h3
    exact Calls.mono (must_ret W) (fun e w' ⟨h1,h2⟩=>⟨g,_,h1,G.ext.refl _ _,hf,Nat.le_refl _,rfl,h2 ▸ hm⟩)
  ·cases h
 ·unfold must104 at h
  split at h
  ·rename_i e
   obtain ⟨x,us,d1,d2,rfl⟩:=dens_cons hx
   have:us=[]:=by simpa [dens] using d2.symm
   subst this
   have:=den_i d1; subst this
   cases he:Nat.beq e 0 with
   | true=>rw [he] at h; cases h
   | false =>
    rw [he] at h
    have hne:Int.ofNat e≠0:=fun hc=>by
     have:e=0:=by simpa using hc
     subst this; cases he
    injection h with h1 h2 h3; subst h1; subst h2; subst h3
    exact Calls.mono (must_pan _ hne W) (fun e w' ⟨h1,h2⟩=>⟨g,_,h1,G.ext.refl _ _,hf,Nat.le_refl _,rfl,h2 ▸ hm⟩)
  ·cases h
end
section
open Go.RowKit
set_option maxRecDepth 100000
theorem ie {P:Program} {F:FT} {p:Pos} {k:CF} (h:Qf P F p k):∀ x,some k=some x→Qf P F p x:=fun x e=>by injection e with e; subst e; exact h
theorem no_ {P:Program} {F:FT} {p:Pos}:∀ x,(none:Option CF)=some x→Qf P F p x:=fun x e=>by cases e
theorem ck3:Qf Tryz.prog ftab0 p4 k3:=mkQ (k:=3) rfl Tryz.func3 (by kernel_rfl) en3
theorem ck5:Qf Tryz.prog ftab0 p6 k5:=mkQ (k:=5) rfl Tryz.func5 (by kernel_rfl) en5
theorem ck6:Qf Tryz.prog ftab0 p7 k6:=mkQ (k:=6) rfl Tryz.func6 (by kernel_rfl) en6
theorem ck7:Qf Tryz.prog ftab0 p8 k7:=mkQ (k:=7) rfl Tryz.func7 (by kernel_rfl) en7
theorem ck8:Qf Tryz.prog ftab0 p9 k8:=mkQ (k:=8) rfl Tryz.func8 (by kernel_rfl) en8
theorem ck9:Qf Tryz.prog ftab0 p10 k9:=mkQ (k:=9) rfl Tryz.func9 (by kernel_rfl) en9
theorem ck10:Qf Tryz.prog ftab0 p11 k10:=mkQ (k:=10) rfl Tryz.func10 (by kernel_rfl) en10
theorem ck11:Qf Tryz.prog ftab0 p12 k11:=mkQ (k:=11) rfl Tryz.func11 (by kernel_rfl) en11
theorem ck12:Qf Tryz.prog ftab0 p13 k12:=mkQ (k:=12) rfl Tryz.func12 (by kernel_rfl) en12
theorem ck13:Qf Tryz.prog ftab0 p14 k13:=mkQ (k:=13) rfl Tryz.func13 (by kernel_rfl) en13
theorem ck16:Qf Tryz.prog ftab0 p17 k16:=mkQ (k:=16) rfl Tryz.func16 (by kernel_rfl) en16
theorem ck17:Qf Tryz.prog ftab0 p18 k17:=mkQ (k:=17) rfl Tryz.func17 (by kernel_rfl) en17
theorem ck18:Qf Tryz.prog ftab0 p19 k18:=mkQ (k:=18) rfl Tryz.func18 (by kernel_rfl) en18
theorem ck19:Qf Tryz.prog ftab0 p20 k19:=mkQ (k:=19) rfl Tryz.func19 (by kernel_rfl) en19
theorem ck20:Qf Tryz.prog ftab0 p21 k20:=mkQ (k:=20) rfl Tryz.func20 (by kernel_rfl) en20
theorem ck21:Qf Tryz.prog ftab0 p22 k21:=mkQ (k:=21) rfl Tryz.func21 (by kernel_rfl) en21
theorem ck22:Qf Tryz.prog ftab0 p23 k22:=mkQ (k:=22) rfl Tryz.func22 (by kernel_rfl) en22
theorem ck23:Qf Tryz.prog ftab0 p24 k23:=mkQ (k:=23) rfl Tryz.func23 (by kernel_rfl) en23
theorem ck24:Qf Tryz.prog ftab0 p25 k24:=mkQ (k:=24) rfl Tryz.func24 (by kernel_rfl) en24
theorem ck26:Qf Tryz.prog ftab0 p27 k26:=mkQ (k:=26) rfl Tryz.func26 (by kernel_rfl) en26
theorem ck27:Qf Tryz.prog ftab0 p28 k27:=mkQ (k:=27) rfl Tryz.func27 (by kernel_rfl) en27
theorem ck28:Qf Tryz.prog ftab0 p29 k28:=mkQ (k:=28) rfl Tryz.func28 (by kernel_rfl) en28
theorem ck29:Qf Tryz.prog ftab0 p30 k29:=mkQ (k:=29) rfl Tryz.func29 (by kernel_rfl) en29
theorem ck30:Qf Tryz.prog ftab0 p31 k30:=mkQ (k:=30) rfl Tryz.func30 (by kernel_rfl) en30
theorem ck31:Qf Tryz.prog ftab0 p32 k31:=mkQ (k:=31) rfl Tryz.func31 (by kernel_rfl) en31
theorem ck32:Qf Tryz.prog ftab0 p33 k32:=mkQ (k:=32) rfl Tryz.func32 (by kernel_rfl) en32
theorem ck33:Qf Tryz.prog ftab0 p34 k33:=mkQ (k:=33) rfl Tryz.func33 (by kernel_rfl) en33
theorem ck34:Qf Tryz.prog ftab0 p35 k34:=mkQ (k:=34) rfl Tryz.func34 (by kernel_rfl) en34
theorem ck35:Qf Tryz.prog ftab0 p36 k35:=mkQ (k:=35) rfl Tryz.func35 (by kernel_rfl) en35
theorem ck36:Qf Tryz.prog ftab0 p37 k36:=mkQ (k:=36) rfl Tryz.func36 (by kernel_rfl) en36
theorem ck37:Qf Tryz.prog ftab0 p38 k37:=mkQ (k:=37) rfl Tryz.func37 (by kernel_rfl) en37
theorem ck39:Qf Tryz.prog ftab0 p40 k39:=mkQ (k:=39) rfl Tryz.func39 (by kernel_rfl) en39
theorem ck40:Qf Tryz.prog ftab0 p41 k40:=mkQ (k:=40) rfl Tryz.func40 (by kernel_rfl) en40
theorem ck41:Qf Tryz.prog ftab0 p42 k41:=mkQ (k:=41) rfl Tryz.func41 (by kernel_rfl) en41
theorem ck42:Qf Tryz.prog ftab0 p43 k42:=mkQ (k:=42) rfl Tryz.func42 (by kernel_rfl) en42
theorem ck43:Qf Tryz.prog ftab0 p44 k43:=mkQ (k:=43) rfl Tryz.func43 (by kernel_rfl) en43
theorem ck44:Qf Tryz.prog ftab0 p45 k44:=mkQ (k:=44) rfl Tryz.func44 (by kernel_rfl) en44
theorem ck45:Qf Tryz.prog ftab0 p46 k45:=mkQ (k:=45) rfl Tryz.func45 (by kernel_rfl) en45
theorem ck46:Qf Tryz.prog ftab0 p47 k46:=mkQ (k:=46) rfl Tryz.func46 (by kernel_rfl) en46
theorem ck47:Qf Tryz.prog ftab0 p48 k47:=mkQ (k:=47) rfl Tryz.func47 (by kernel_rfl) en47
theorem ck48:Qf Tryz.prog ftab0 p49 k48:=mkQ (k:=48) rfl Tryz.func48 (by kernel_rfl) en48
theorem ck49:Qf Tryz.prog ftab0 p50 k49:=mkQ (k:=49) rfl Tryz.func49 (by kernel_rfl) en49
theorem ck50:Qf Tryz.prog ftab0 p51 k50:=mkQ (k:=50) rfl Tryz.func50 (by kernel_rfl) en50
theorem ck51:Qf Tryz.prog ftab0 p52 k51:=mkQ (k:=51) rfl Tryz.func51 (by kernel_rfl) en51
theorem ck52:Qf Tryz.prog ftab0 p53 k52:=mkQ (k:=52) rfl Tryz.func52 (by kernel_rfl) en52
theorem ck53:Qf Tryz.prog ftab0 p54 k53:=mkQ (k:=53) rfl Tryz.func53 (by kernel_rfl) en53
theorem ck54:Qf Tryz.prog ftab0 p55 k54:=mkQ (k:=54) rfl Tryz.func54 (by kernel_rfl) en54
theorem ck56:Qf Tryz.prog ftab0 p57 k56:=mkQ (k:=56) rfl Tryz.func56 (by kernel_rfl) en56
theorem ck57:Qf Tryz.prog ftab0 p58 k57:=mkQ (k:=57) rfl Tryz.func57 (by kernel_rfl) en57
theorem ck58:Qf Tryz.prog ftab0 p59 k58:=mkQ (k:=58) rfl Tryz.func58 (by kernel_rfl) en58
theorem ck59:Qf Tryz.prog ftab0 p60 k59:=mkQ (k:=59) rfl Tryz.func59 (by kernel_rfl) en59
theorem ck60:Qf Tryz.prog ftab0 p61 k60:=mkQ (k:=60) rfl Tryz.func60 (by kernel_rfl) en60
theorem ck61:Qf Tryz.prog ftab0 p62 k61:=mkQ (k:=61) rfl Tryz.func61 (by kernel_rfl) en61
theorem ck62:Qf Tryz.prog ftab0 p63 k62:=mkQ (k:=62) rfl Tryz.func62 (by kernel_rfl) en62
theorem ck63:Qf Tryz.prog ftab0 p64 k63:=mkQ (k:=63) rfl Tryz.func63 (by kernel_rfl) en63
theorem ck64:Qf Tryz.prog ftab0 p65 k64:=mkQ (k:=64) rfl Tryz.func64 (by kernel_rfl) en64
theorem ck65:Qf Tryz.prog ftab0 p66 k65:=mkQ (k:=65) rfl Tryz.func65 (by kernel_rfl) en65
theorem ck66:Qf Tryz.prog ftab0 p67 k66:=mkQ (k:=66) rfl Tryz.func66 (by kernel_rfl) en66
theorem ck67:Qf Tryz.prog ftab0 p68 k67:=mkQ (k:=67) rfl Tryz.func67 (by kernel_rfl) en67
theorem ck68:Qf Tryz.prog ftab0 p69 k68:=mkQ (k:=68) rfl Tryz.func68 (by kernel_rfl) en68
theorem ck71:Qf Tryz.prog ftab0 p72 k71:=mkQ (k:=71) rfl Tryz.func71 (by kernel_rfl) en71
theorem ck72:Qf Tryz.prog ftab0 p73 k72:=mkQ (k:=72) rfl Tryz.func72 (by kernel_rfl) en72
theorem ck74:Qf Tryz.prog ftab0 p75 k74:=mkQ (k:=74) rfl Tryz.func74 (by kernel_rfl) en74
theorem ck75:Qf Tryz.prog ftab0 p76 k75:=mkQ (k:=75) rfl Tryz.func75 (by kernel_rfl) en75
theorem ck76:Qf Tryz.prog ftab0 p77 k76:=mkQ (k:=76) rfl Tryz.func76 (by kernel_rfl) en76
theorem ck77:Qf Tryz.prog ftab0 p78 k77:=mkQ (k:=77) rfl Tryz.func77 (by kernel_rfl) en77
theorem ck78:Qf Tryz.prog ftab0 p79 k78:=mkQ (k:=78) rfl Tryz.func78 (by kernel_rfl) en78
theorem ck80:Qf Tryz.prog ftab0 p81 k80:=mkQ (k:=80) rfl Tryz.func80 (by kernel_rfl) en80
theorem ck81:Qf Tryz.prog ftab0 p82 k81:=mkQ (k:=81) rfl Tryz.func81 (by kernel_rfl) en81
theorem ck82:Qf Tryz.prog ftab0 p83 k82:=mkQ (k:=82) rfl Tryz.func82 (by kernel_rfl) en82
theorem ck83:Qf Tryz.prog ftab0 p84 k83:=mkQ (k:=83) rfl Tryz.func83 (by kernel_rfl) en83
theorem ck84:Qf Tryz.prog ftab0 p85 k84:=mkQ (k:=84) rfl Tryz.func84 (by kernel_rfl) en84
theorem ck85:Qf Tryz.prog ftab0 p86 k85:=mkQ (k:=85) rfl Tryz.func85 (by kernel_rfl) en85
theorem ck86:Qf Tryz.prog ftab0 p87 k86:=mkQ (k:=86) rfl Tryz.func86 (by kernel_rfl) en86
theorem ck87:Qf Tryz.prog ftab0 p88 k87:=mkQ (k:=87) rfl Tryz.func87 (by kernel_rfl) en87
theorem ck88:Qf Tryz.prog ftab0 p89 k88:=mkQ (k:=88) rfl Tryz.func88 (by kernel_rfl) en88
theorem ck89:Qf Tryz.prog ftab0 p90 k89:=mkQ (k:=89) rfl Tryz.func89 (by kernel_rfl) en89
theorem ck99:Qf Tryz.prog ftab0 p100 k99:=mkQ (k:=99) rfl Tryz.func99 (by kernel_rfl) en99
theorem ck100:Qf Tryz.prog ftab0 p101 k100:=mkQ (k:=100) rfl Tryz.func100 (by kernel_rfl) en100
theorem ck101:Qf Tryz.prog ftab0 p102 k101:=mkQ (k:=101) rfl Tryz.func101 (by kernel_rfl) en101
theorem ck103:Qf Tryz.prog ftab0 p104 k103:=mkQ (k:=103) rfl Tryz.func103 (by kernel_rfl) en103
theorem ck105:Qf Tryz.prog ftab0 p106 k105:=mkQ (k:=105) rfl Tryz.func105 (by kernel_rfl) en105
theorem ck106:Qf Tryz.prog ftab0 p107 k106:=mkQ (k:=106) rfl Tryz.func106 (by kernel_rfl) en106
theorem ck107:Qf Tryz.prog ftab0 p108 k107:=mkQ (k:=107) rfl Tryz.func107 (by kernel_rfl) en107
theorem ck108:Qf Tryz.prog ftab0 p109 k108:=mkQ (k:=108) rfl Tryz.func108 (by kernel_rfl) en108
theorem ck109:Qf Tryz.prog ftab0 p110 k109:=mkQ (k:=109) rfl Tryz.func109 (by kernel_rfl) en109
theorem ck110:Qf Tryz.prog ftab0 p111 k110:=mkQ (k:=110) rfl Tryz.func110 (by kernel_rfl) en110
theorem ck111:Qf Tryz.prog ftab0 p112 k111:=mkQ (k:=111) rfl Tryz.func111 (by kernel_rfl) en111
theorem ck112:Qf Tryz.prog ftab0 p113 k112:=mkQ (k:=112) rfl Tryz.func112 (by kernel_rfl) en112
theorem ck113:Qf Tryz.prog ftab0 p114 k113:=mkQ (k:=113) rfl Tryz.func113 (by kernel_rfl) en113
theorem ck114:Qf Tryz.prog ftab0 p115 k114:=mkQ (k:=114) rfl Tryz.func114 (by kernel_rfl) en114
theorem ck115:Qf Tryz.prog ftab0 p116 k115:=mkQ (k:=115) rfl Tryz.func115 (by kernel_rfl) en115
theorem ck118:Qf Tryz.prog ftab0 p119 k118:=mkQ (k:=118) rfl Tryz.func118 (by kernel_rfl) en118
theorem ck119:Qf Tryz.prog ftab0 p120 k119:=mkQ (k:=119) rfl Tryz.func119 (by kernel_rfl) en119
theorem ck120:Qf Tryz.prog ftab0 p121 k120:=mkQ (k:=120) rfl Tryz.func120 (by kernel_rfl) en120
theorem ck121:Qf Tryz.prog ftab0 p122 k121:=mkQ (k:=121) rfl Tryz.func121 (by kernel_rfl) en121
theorem ck122:Qf Tryz.prog ftab0 p123 k122:=mkQ (k:=122) rfl Tryz.func122 (by kernel_rfl) en122
theorem ck125:Qf Tryz.prog ftab0 p126 k125:=mkQ (k:=125) rfl Tryz.func125 (by kernel_rfl) en125
theorem ck126:Qf Tryz.prog ftab0 p127 k126:=mkQ (k:=126) rfl Tryz.func126 (by kernel_rfl) en126
theorem ck128:Qf Tryz.prog ftab0 p129 k128:=mkQ (k:=128) rfl Tryz.func128 (by kernel_rfl) en128
theorem ck129:Qf Tryz.prog ftab0 p130 k129:=mkQ (k:=129) rfl Tryz.func129 (by kernel_rfl) en129
theorem ck130:Qf Tryz.prog ftab0 p131 k130:=mkQ (k:=130) rfl Tryz.func130 (by kernel_rfl) en130
theorem ck131:Qf Tryz.prog ftab0 p132 k131:=mkQ (k:=131) rfl Tryz.func131 (by kernel_rfl) en131
theorem ck132:Qf Tryz.prog ftab0 p133 k132:=mkQ (k:=132) rfl Tryz.func132 (by kernel_rfl) en132
theorem ck133:Qf Tryz.prog ftab0 p134 k133:=mkQ (k:=133) rfl Tryz.func133 (by kernel_rfl) en133
theorem ck134:Qf Tryz.prog ftab0 p135 k134:=mkQ (k:=134) rfl Tryz.func134 (by kernel_rfl) en134
theorem ck135:Qf Tryz.prog ftab0 p136 k135:=mkQ (k:=135) rfl Tryz.func135 (by kernel_rfl) en135
theorem ck136:Qf Tryz.prog ftab0 p137 k136:=mkQ (k:=136) rfl Tryz.func136 (by kernel_rfl) en136
theorem ck137:Qf Tryz.prog ftab0 p138 k137:=mkQ (k:=137) rfl Tryz.func137 (by kernel_rfl) en137
theorem ck139:Qf Tryz.prog ftab0 p140 k139:=mkQ (k:=139) rfl Tryz.func139 (by kernel_rfl) en139
theorem ck144:Qf Tryz.prog ftab0 p145 k144:=mkQ (k:=144) rfl Tryz.func144 (by kernel_rfl) en144
theorem ck145:Qf Tryz.prog ftab0 p146 k145:=mkQ (k:=145) rfl Tryz.func145 (by kernel_rfl) en145
theorem ck147:Qf Tryz.prog ftab0 p148 k147:=mkQ (k:=147) rfl Tryz.func147 (by kernel_rfl) en147
theorem ck148:Qf Tryz.prog ftab0 p149 k148:=mkQ (k:=148) rfl Tryz.func148 (by kernel_rfl) en148
theorem ck149:Qf Tryz.prog ftab0 p150 k149:=mkQ (k:=149) rfl Tryz.func149 (by kernel_rfl) en149
theorem ck150:Qf Tryz.prog ftab0 p151 k150:=mkQ (k:=150) rfl Tryz.func150 (by kernel_rfl) en150
theorem ck151:Qf Tryz.prog ftab0 p152 k151:=mkQ (k:=151) rfl Tryz.func151 (by kernel_rfl) en151
theorem ck152:Qf Tryz.prog ftab0 p153 k152:=mkQ (k:=152) rfl Tryz.func152 (by kernel_rfl) en152
theorem ck153:Qf Tryz.prog ftab0 p154 k153:=mkQ (k:=153) rfl Tryz.func153 (by kernel_rfl) en153
theorem ck154:Qf Tryz.prog ftab0 p155 k154:=mkQ (k:=154) rfl Tryz.func154 (by kernel_rfl) en154
theorem ck156:Qf Tryz.prog ftab0 p157 k156:=mkQ (k:=156) rfl Tryz.func156 (by kernel_rfl) en156
theorem ck157:Qf Tryz.prog ftab0 p158 k157:=mkQ (k:=157) rfl Tryz.func157 (by kernel_rfl) en157
theorem ck158:Qf Tryz.prog ftab0 p159 k158:=mkQ (k:=158) rfl Tryz.func158 (by kernel_rfl) en158
theorem ck159:Qf Tryz.prog ftab0 p160 k159:=mkQ (k:=159) rfl Tryz.func159 (by kernel_rfl) en159
theorem ck160:Qf Tryz.prog ftab0 p161 k160:=mkQ (k:=160) rfl Tryz.func160 (by kernel_rfl) en160
theorem ck161:Qf Tryz.prog ftab0 p162 k161:=mkQ (k:=161) rfl Tryz.func161 (by kernel_rfl) en161
theorem ck162:Qf Tryz.prog ftab0 p163 k162:=mkQ (k:=162) rfl Tryz.func162 (by kernel_rfl) en162
theorem ck163:Qf Tryz.prog ftab0 p164 k163:=mkQ (k:=163) rfl Tryz.func163 (by kernel_rfl) en163
theorem ck164:Qf Tryz.prog ftab0 p165 k164:=mkQ (k:=164) rfl Tryz.func164 (by kernel_rfl) en164
theorem ck165:Qf Tryz.prog ftab0 p166 k165:=mkQ (k:=165) rfl Tryz.func165 (by kernel_rfl) en165
theorem ck166:Qf Tryz.prog ftab0 p167 k166:=mkQ (k:=166) rfl Tryz.func166 (by kernel_rfl) en166
theorem ck167:Qf Tryz.prog ftab0 p168 k167:=mkQ (k:=167) rfl Tryz.func167 (by kernel_rfl) en167
theorem ck168:Qf Tryz.prog ftab0 p169 k168:=mkQ (k:=168) rfl Tryz.func168 (by kernel_rfl) en168
theorem ck169:Qf Tryz.prog ftab0 p170 k169:=mkQ (k:=169) rfl Tryz.func169 (by kernel_rfl) en169
theorem ck174:Qf Tryz.prog ftab0 p175 k174:=mkQ (k:=174) rfl Tryz.func174 (by kernel_rfl) en174
theorem ck175:Qf Tryz.prog ftab0 p176 k175:=mkQ (k:=175) rfl Tryz.func175 (by kernel_rfl) en175
theorem ck178:Qf Tryz.prog ftab0 p179 k178:=mkQ (k:=178) rfl Tryz.func178 (by kernel_rfl) en178
theorem ck180:Qf Tryz.prog ftab0 p181 k180:=mkQ (k:=180) rfl Tryz.func180 (by kernel_rfl) en180
theorem ck181:Qf Tryz.prog ftab0 p182 k181:=mkQ (k:=181) rfl Tryz.func181 (by kernel_rfl) en181
theorem ck182:Qf Tryz.prog ftab0 p183 k182:=mkQ (k:=182) rfl Tryz.func182 (by kernel_rfl) en182
theorem ck183:Qf Tryz.prog ftab0 p184 k183:=mkQ (k:=183) rfl Tryz.func183 (by kernel_rfl) en183
theorem ck184:Qf Tryz.prog ftab0 p185 k184:=mkQ (k:=184) rfl Tryz.func184 (by kernel_rfl) en184
theorem ck185:Qf Tryz.prog ftab0 p186 k185:=mkQ (k:=185) rfl Tryz.func185 (by kernel_rfl) en185
theorem ck186:Qf Tryz.prog ftab0 p187 k186:=mkQ (k:=186) rfl Tryz.func186 (by kernel_rfl) en186
theorem ck187:Qf Tryz.prog ftab0 p188 k187:=mkQ (k:=187) rfl Tryz.func187 (by kernel_rfl) en187
theorem ck188:Qf Tryz.prog ftab0 p189 k188:=mkQ (k:=188) rfl Tryz.func188 (by kernel_rfl) en188
theorem ck189:Qf Tryz.prog ftab0 p190 k189:=mkQ (k:=189) rfl Tryz.func189 (by kernel_rfl) en189
theorem ck190:Qf Tryz.prog ftab0 p191 k190:=mkQ (k:=190) rfl Tryz.func190 (by kernel_rfl) en190
theorem ck191:Qf Tryz.prog ftab0 p192 k191:=mkQ (k:=191) rfl Tryz.func191 (by kernel_rfl) en191
theorem ck192:Qf Tryz.prog ftab0 p193 k192:=mkQ (k:=192) rfl Tryz.func192 (by kernel_rfl) en192
theorem ck193:Qf Tryz.prog ftab0 p194 k193:=mkQ (k:=193) rfl Tryz.func193 (by kernel_rfl) en193
theorem ck195:Qf Tryz.prog ftab0 p196 k195:=mkQ (k:=195) rfl Tryz.func195 (by kernel_rfl) en195
theorem ck196:Qf Tryz.prog ftab0 p197 k196:=mkQ (k:=196) rfl Tryz.func196 (by kernel_rfl) en196
theorem ck197:Qf Tryz.prog ftab0 p198 k197:=mkQ (k:=197) rfl Tryz.func197 (by kernel_rfl) en197
theorem ck198:Qf Tryz.prog ftab0 p199 k198:=mkQ (k:=198) rfl Tryz.func198 (by kernel_rfl) en198
theorem ck199:Qf Tryz.prog ftab0 p200 k199:=mkQ (k:=199) rfl Tryz.func199 (by kernel_rfl) en199
theorem ck200:Qf Tryz.prog ftab0 p201 k200:=mkQ (k:=200) rfl Tryz.func200 (by kernel_rfl) en200
theorem ck201:Qf Tryz.prog ftab0 p202 k201:=mkQ (k:=201) rfl Tryz.func201 (by kernel_rfl) en201
theorem ck202:Qf Tryz.prog ftab0 p203 k202:=mkQ (k:=202) rfl Tryz.func202 (by kernel_rfl) en202
theorem ck203:Qf Tryz.prog ftab0 p204 k203:=mkQ (k:=203) rfl Tryz.func203 (by kernel_rfl) en203
theorem ck206:Qf Tryz.prog ftab0 p207 k206:=mkQ (k:=206) rfl Tryz.func206 (by kernel_rfl) en206
theorem ck207:Qf Tryz.prog ftab0 p208 k207:=mkQ (k:=207) rfl Tryz.func207 (by kernel_rfl) en207
theorem ck209:Qf Tryz.prog ftab0 p210 k209:=mkQ (k:=209) rfl Tryz.func209 (by kernel_rfl) en209
theorem ck210:Qf Tryz.prog ftab0 p211 k210:=mkQ (k:=210) rfl Tryz.func210 (by kernel_rfl) en210
theorem ck211:Qf Tryz.prog ftab0 p212 k211:=mkQ (k:=211) rfl Tryz.func211 (by kernel_rfl) en211
theorem ck212:Qf Tryz.prog ftab0 p213 k212:=mkQ (k:=212) rfl Tryz.func212 (by kernel_rfl) en212
theorem ck213:Qf Tryz.prog ftab0 p214 k213:=mkQ (k:=213) rfl Tryz.func213 (by kernel_rfl) en213
theorem ck214:Qf Tryz.prog ftab0 p215 k214:=mkQ (k:=214) rfl Tryz.func214 (by kernel_rfl) en214
theorem ck215:Qf Tryz.prog ftab0 p216 k215:=mkQ (k:=215) rfl Tryz.func215 (by kernel_rfl) en215
theorem ck216:Qf Tryz.prog ftab0 p217 k216:=mkQ (k:=216) rfl Tryz.func216 (by kernel_rfl) en216
theorem ck218:Qf Tryz.prog ftab0 p219 k218:=mkQ (k:=218) rfl Tryz.func218 (by kernel_rfl) en218
theorem ck219:Qf Tryz.prog ftab0 p220 k219:=mkQ (k:=219) rfl Tryz.func219 (by kernel_rfl) en219
theorem ck220:Qf Tryz.prog ftab0 p221 k220:=mkQ (k:=220) rfl Tryz.func220 (by kernel_rfl) en220
theorem ck230:Qf Tryz.prog ftab0 p231 k230:=mkQ (k:=230) rfl Tryz.func230 (by kernel_rfl) en230
theorem ck231:Qf Tryz.prog ftab0 p232 k231:=mkQ (k:=231) rfl Tryz.func231 (by kernel_rfl) en231
theorem ck232:Qf Tryz.prog ftab0 p233 k232:=mkQ (k:=232) rfl Tryz.func232 (by kernel_rfl) en232
theorem ck233:Qf Tryz.prog ftab0 p234 k233:=mkQ (k:=233) rfl Tryz.func233 (by kernel_rfl) en233
theorem ck234:Qf Tryz.prog ftab0 p235 k234:=mkQ (k:=234) rfl Tryz.func234 (by kernel_rfl) en234
theorem ck235:Qf Tryz.prog ftab0 p236 k235:=mkQ (k:=235) rfl Tryz.func235 (by kernel_rfl) en235
theorem ck236:Qf Tryz.prog ftab0 p237 k236:=mkQ (k:=236) rfl Tryz.func236 (by kernel_rfl) en236
theorem ck249:Qf Tryz.prog ftab0 p250 k249:=mkQ (k:=249) rfl Tryz.func249 (by kernel_rfl) en249
theorem ck253:Qf Tryz.prog ftab0 p254 k253:=mkQ (k:=253) rfl Tryz.func253 (by kernel_rfl) en253
theorem ck254:Qf Tryz.prog ftab0 p255 k254:=mkQ (k:=254) rfl Tryz.func254 (by kernel_rfl) en254
theorem ck255:Qf Tryz.prog ftab0 p256 k255:=mkQ (k:=255) rfl Tryz.func255 (by kernel_rfl) en255
theorem ck256:Qf Tryz.prog ftab0 p257 k256:=mkQ (k:=256) rfl Tryz.func256 (by kernel_rfl) en256
theorem ck269:Qf Tryz.prog ftab0 p270 k269:=mkQ (k:=269) rfl Tryz.func269 (by kernel_rfl) en269
theorem ck273:Qf Tryz.prog ftab0 p274 k273:=mkQ (k:=273) rfl Tryz.func273 (by kernel_rfl) en273
theorem fs_ok:AllT (Qf Tryz.prog ftab0) fs:=⟨no_,⟨no_,⟨(ie ck3),⟨(ie ck7),⟨no_,⟨(ie ck31),⟨(ie ck63),⟨no_,⟨(ie ck255),trivial,trivial⟩,trivial⟩,⟨(ie ck191),trivial,trivial⟩⟩,⟨no_,⟨(ie ck159),trivial,trivial⟩,trivial⟩⟩,⟨(ie ck47),⟨no_,trivial,⟨(ie ck207),trivial,trivial⟩⟩,⟨(ie ck111),⟨(ie ck175),trivial,trivial⟩,trivial⟩⟩⟩,⟨(ie ck23),⟨(ie ck39),⟨(ie ck71),⟨(ie ck135),trivial,trivial⟩,⟨(ie ck199),trivial,trivial⟩⟩,⟨(ie ck103),⟨(ie ck167),trivial,trivial⟩,⟨(ie ck231),trivial,trivial⟩⟩⟩,⟨no_,⟨(ie ck87),⟨(ie ck151),trivial,trivial⟩,⟨(ie ck215),trivial,trivial⟩⟩,⟨(ie ck119),⟨(ie ck183),trivial,trivial⟩,trivial⟩⟩⟩⟩,⟨(ie ck11),⟨(ie ck19),⟨(ie ck35),⟨(ie ck67),⟨(ie ck131),trivial,trivial⟩,⟨(ie ck195),trivial,trivial⟩⟩,⟨(ie ck99),⟨(ie ck163),trivial,trivial⟩,trivial⟩⟩,⟨(ie ck51),⟨(ie ck83),⟨(ie ck147),trivial,trivial⟩,⟨(ie ck211),trivial,trivial⟩⟩,⟨(ie ck115),trivial,trivial⟩⟩⟩,⟨(ie ck27),⟨(ie ck43),⟨(ie ck75),⟨(ie ck139),trivial,trivial⟩,⟨(ie ck203),trivial,trivial⟩⟩,⟨(ie ck107),trivial,⟨(ie ck235),trivial,trivial⟩⟩⟩,⟨(ie ck59),⟨no_,trivial,⟨(ie ck219),trivial,trivial⟩⟩,⟨no_,⟨(ie ck187),trivial,trivial⟩,trivial⟩⟩⟩⟩⟩,⟨(ie ck5),⟨(ie ck9),⟨(ie ck17),⟨(ie ck33),⟨(ie ck65),⟨(ie ck129),trivial,trivial⟩,⟨(ie ck193),trivial,trivial⟩⟩,⟨no_,⟨(ie ck161),trivial,trivial⟩,trivial⟩⟩,⟨(ie ck49),⟨(ie ck81),⟨(ie ck145),⟨(ie ck273),trivial,trivial⟩,trivial⟩,⟨(ie ck209),trivial,trivial⟩⟩,⟨(ie ck113),trivial,trivial⟩⟩⟩,⟨no_,⟨(ie ck41),⟨no_,⟨(ie ck137),trivial,trivial⟩,⟨(ie ck201),trivial,trivial⟩⟩,⟨(ie ck105),⟨(ie ck169),trivial,trivial⟩,⟨(ie ck233),trivial,trivial⟩⟩⟩,⟨(ie ck57),⟨(ie ck89),⟨(ie ck153),trivial,trivial⟩,trivial⟩,⟨(ie ck121),⟨(ie ck185),trivial,trivial⟩,⟨(ie ck249),trivial,trivial⟩⟩⟩⟩⟩,⟨(ie ck13),⟨(ie ck21),⟨(ie ck37),⟨no_,⟨(ie ck133),trivial,trivial⟩,⟨(ie ck197),trivial,trivial⟩⟩,⟨(ie ck101),⟨(ie ck165),trivial,trivial⟩,trivial⟩⟩,⟨(ie ck53),⟨(ie ck85),⟨(ie ck149),trivial,trivial⟩,⟨(ie ck213),trivial,trivial⟩⟩,⟨no_,⟨(ie ck181),trivial,trivial⟩,trivial⟩⟩⟩,⟨(ie ck29),⟨(ie ck45),⟨(ie ck77),⟨no_,⟨(ie ck269),trivial,trivial⟩,trivial⟩,trivial⟩,⟨(ie ck109),trivial,trivial⟩⟩,⟨(ie ck61),⟨no_,⟨(ie ck157),trivial,trivial⟩,trivial⟩,⟨(ie ck125),⟨(ie ck189),trivial,trivial⟩,⟨(ie ck253),trivial,trivial⟩⟩⟩⟩⟩⟩⟩,⟨no_,⟨no_,⟨(ie ck8),⟨(ie ck16),⟨(ie ck32),⟨(ie ck64),⟨(ie ck128),⟨(ie ck256),trivial,trivial⟩,trivial⟩,⟨(ie ck192),trivial,trivial⟩⟩,⟨no_,⟨(ie ck160),trivial,trivial⟩,trivial⟩⟩,⟨(ie ck48),⟨(ie ck80),⟨(ie ck144),trivial,trivial⟩,trivial⟩,⟨(ie ck112),trivial,trivial⟩⟩⟩,⟨(ie ck24),⟨(ie ck40),⟨(ie ck72),⟨(ie ck136),trivial,trivial⟩,⟨(ie ck200),trivial,trivial⟩⟩,⟨no_,⟨(ie ck168),trivial,trivial⟩,⟨(ie ck232),trivial,trivial⟩⟩⟩,⟨(ie ck56),⟨(ie ck88),⟨(ie ck152),trivial,trivial⟩,⟨(ie ck216),trivial,trivial⟩⟩,⟨(ie ck120),⟨(ie ck184),trivial,trivial⟩,trivial⟩⟩⟩⟩,⟨(ie ck12),⟨(ie ck20),⟨(ie ck36),⟨(ie ck68),⟨(ie ck132),trivial,trivial⟩,⟨(ie ck196),trivial,trivial⟩⟩,⟨(ie ck100),⟨(ie ck164),trivial,trivial⟩,trivial⟩⟩,⟨(ie ck52),⟨(ie ck84),⟨(ie ck148),trivial,trivial⟩,⟨(ie ck212),trivial,trivial⟩⟩,⟨no_,⟨(ie ck180),trivial,trivial⟩,trivial⟩⟩⟩,⟨(ie ck28),⟨(ie ck44),⟨(ie ck76),trivial,trivial⟩,⟨(ie ck108),trivial,⟨(ie ck236),trivial,trivial⟩⟩⟩,⟨(ie ck60),⟨no_,⟨(ie ck156),trivial,trivial⟩,⟨(ie ck220),trivial,trivial⟩⟩,⟨no_,⟨(ie ck188),trivial,trivial⟩,trivial⟩⟩⟩⟩⟩,⟨(ie ck6),⟨(ie ck10),⟨(ie ck18),⟨(ie ck34),⟨(ie ck66),⟨(ie ck130),trivial,trivial⟩,trivial⟩,⟨no_,⟨(ie ck162),trivial,trivial⟩,trivial⟩⟩,⟨(ie ck50),⟨(ie ck82),trivial,⟨(ie ck210),trivial,trivial⟩⟩,⟨(ie ck114),⟨(ie ck178),trivial,trivial⟩,trivial⟩⟩⟩,⟨(ie ck26),⟨(ie ck42),⟨(ie ck74),trivial,⟨(ie ck202),trivial,trivial⟩⟩,⟨(ie ck106),trivial,⟨(ie ck234),trivial,trivial⟩⟩⟩,⟨(ie ck58),⟨no_,⟨(ie ck154),trivial,trivial⟩,⟨(ie ck218),trivial,trivial⟩⟩,⟨(ie ck122),⟨(ie ck186),trivial,trivial⟩,trivial⟩⟩⟩⟩,⟨no_,⟨(ie ck22),⟨no_,⟨no_,⟨(ie ck134),trivial,trivial⟩,⟨(ie ck198),trivial,trivial⟩⟩,⟨no_,⟨(ie ck166),trivial,trivial⟩,⟨(ie ck230),trivial,trivial⟩⟩⟩,⟨(ie ck54),⟨(ie ck86),⟨(ie ck150),trivial,trivial⟩,⟨(ie ck214),trivial,trivial⟩⟩,⟨(ie ck118),⟨(ie ck182),trivial,trivial⟩,trivial⟩⟩⟩,⟨(ie ck30),⟨(ie ck46),⟨(ie ck78),trivial,⟨(ie ck206),trivial,trivial⟩⟩,⟨(ie ck110),⟨(ie ck174),trivial,trivial⟩,trivial⟩⟩,⟨(ie ck62),⟨no_,⟨(ie ck158),trivial,trivial⟩,trivial⟩,⟨(ie ck126),⟨(ie ck190),trivial,trivial⟩,⟨(ie ck254),trivial,trivial⟩⟩⟩⟩⟩⟩⟩⟩
end
noncomputable section
open Go.RowKit
variable {W0 W:World} {R:List Thing} {g:G} {me:T Ob} {nx:Pos}
def tmC:List SV:=[.i .i64 0,.s 0 0,.i .u64 0,.i .i64 0,.i .i64 0,.i .i64 0]
def newMe (n:Nat) (me:T Ob) (nx:Pos):T Ob:=T.put (Pos.succ (Pos.succ (Pos.succ nx))) (some (.c 109 [.sr nx 1,.sr (Pos.succ nx) 1,.m (Pos.succ (Pos.succ nx)),.i .i64 (.ofNat n)]))
 (T.put (Pos.succ (Pos.succ nx)) (some (.m .i64 [])) (T.put (Pos.succ nx) (some (.r 3 1 [.i .i64 0])) (T.put nx (some (.r 94 6 tmC)) me)))
theorem run49 (n:Nat) (h:n=5000∨n=65536) (me:T Ob) (nx:Pos):runK (fun _ _ _ _=>.no) k49 [.i .i64 (.ofNat n)] me nx=.ret (.t [.p (Pos.succ (Pos.succ (Pos.succ nx))) 0,er 0]) (newMe n me nx) (Pos.succ (Pos.succ (Pos.succ (Pos.succ nx)))):=by
 rcases h with rfl | rfl <;> rfl
theorem pull {A:List Thing} {i:Pos} {o:Ob} (h:Sts W0 W (A++(mem g (T.put i (some o) me)++R))) (hn:T.get i me=none):Sts W0 W (OT g i o::(A++(mem g me++R))):=by
 refine h.perm ?_
 have h1:(mem g (T.put i (some o) me)).Perm (OT g i o::mem g me):=by
  have:=mem_put (g:=g) (me:=me) (i:=i) (o:=o)
  rwa [mem_none hn] at this
 exact ((h1.append_right R).append_left A).trans List.perm_middle
theorem none_cl:SndF Tryz.prog W0 (fun _ _ _ _=>.no):=⟨fun f vs me nx v me' nx' h=>(by cases h),fun f vs me nx v me' nx' h=>(by cases h),fun f vs me nx h=>(h rfl).elim⟩
theorem mp_nil {b:Nat} {L:List Thing} (h:Sts W0 W (Mp (ienc .i64) b []::L)):Sts W0 W (Mp tval b []::L):=by
 refine Sts.weak h (A:=fun x=>x=b) (fun F hF=>?_)
 unfold Mp at hF ⊢
 obtain ⟨⟨es,ck,h1,h2⟩,h3⟩:=hF
 refine ⟨⟨⟨es,ck,h1,?_,h2.nodup,h2.born⟩,fun x=>Iff.rfl⟩,fun x hx=>(h3 x).2 hx⟩
 have:=h2.kv
 simpa using this
theorem perm5 {α:Type} (f r q m b:α) (L:List α):(f::r::q::m::b::L).Perm (b::r::q::m::f::L) :=
 (List.perm_middle (l₁:=[r,q,m,b]) (a:=f) (l₂:=L)).symm.trans (List.perm_middle (l₁:=[r,q,m]) (a:=b) (l₂:=f::L))
theorem new_sts {n:Nat} {g':G} {R:List Thing} (hn:n≤65536) (h1:T.get nx me=none) (h2:T.get (Pos.succ nx) me=none) (h3:T.get (Pos.succ (Pos.succ nx)) me=none) (h4:T.get (Pos.succ (Pos.succ (Pos.succ nx))) me=none)
  (hs:Sts W0 W (mem g' (newMe n me nx)++R)):Sts W0 W (mem g' (T.put (Pos.succ (Pos.succ (Pos.succ nx))) (some (.st 0 [] n none)) me)++R):=by
 have e1:=Pos.nat_succ nx
 have e2:=Pos.nat_succ (Pos.succ nx)
 have e3:=Pos.nat_succ (Pos.succ (Pos.succ nx))
 have n01:Pos.succ nx≠nx:=fun e=>by have:=congrArg Pos.nat e; omega
 have n02:Pos.succ (Pos.succ nx)≠nx:=fun e=>by have:=congrArg Pos.nat e; omega
 have n03:Pos.succ (Pos.succ (Pos.succ nx))≠nx:=fun e=>by have:=congrArg Pos.nat e; omega
 have n12:Pos.succ (Pos.succ nx)≠Pos.succ nx:=fun e=>by have:=congrArg Pos.nat e; omega
 have n13:Pos.succ (Pos.succ (Pos.succ nx))≠Pos.succ nx:=fun e=>by have:=congrArg Pos.nat e; omega
 have n23:Pos.succ (Pos.succ (Pos.succ nx))≠Pos.succ (Pos.succ nx):=fun e=>by have:=congrArg Pos.nat e; omega
 unfold newMe at hs
 have s1:=pull (A:=[]) hs (by rw [T.get_other _ _ _ _ n23,T.get_other _ _ _ _ n13,T.get_other _ _ _ _ n03]; exact h4)
 obtain ⟨x1,s1⟩:=s1.of_some
 obtain ⟨⟨a1,a2⟩,s1⟩:=s1.of_both.of_fact
 have s2:=pull (A:=[Bk x1.1 109 x1.2.2]) s1 (by rw [T.get_other _ _ _ _ n12,T.get_other _ _ _ _ n02]; exact h3)
 obtain ⟨x2,s2⟩:=s2.of_some
 obtain ⟨⟨b1,b2,b3,b4⟩,s2⟩:=s2.of_both.of_fact
 have hx2:x2.2.2.1=[]:=(Option.some.inj b2).symm
 rw [hx2] at b3
 have hx2':x2.2.2.2=[]:=List.Perm.eq_nil b3
 rw [hx2'] at s2
 have s2:=mp_nil s2
 have s3:=pull (A:=[Mp tval x2.1 [],Bk x1.1 109 x1.2.2]) s2 (by rw [T.get_other _ _ _ _ n01]; exact h2)
 obtain ⟨x3,s3⟩:=s3.of_some
 obtain ⟨⟨c1,c2⟩,s3⟩:=s3.of_both.of_fact
 have s4:=pull (A:=[Rw 3 1 (.slice (some ⟨x3.1,0,none⟩) x3.2.2.2 x3.2.1) x3.2.2.2 x3.2.2.1,Mp tval x2.1 [],Bk x1.1 109 x1.2.2]) s3 h1
 obtain ⟨x4,s4⟩:=s4.of_some
 obtain ⟨⟨d1,d2⟩,s4⟩:=s4.of_both.of_fact
 have hc:x3.2.2.1=i64s [0]:=(Option.some.inj c2).symm
 have hd:x4.2.2.1=tsC (tm0::[]):=(Option.some.inj (show some _=some x4.2.2.1 from d2)).symm
 have l4:=s4.rwLen .here
 have l3:=s4.rwLen (.there .here)
 rw [hd,tsC_len] at l4
 rw [hc,i64s_len] at l3
 have m4:x4.2.2.2=1:=by simp at l4; omega
 have m3:x3.2.2.2=1:=by simp at l3; omega
 have hv:x1.2.2=[.slice (some ⟨x4.1,0,none⟩) 1 x4.2.1,.slice (some ⟨x3.1,0,none⟩) 1 x3.2.1,.map (some x2.1),.int .i64 (n:Int)]:=by
  have:dens (den1 g') [.sr nx 1,.sr (Pos.succ nx) 1,.m (Pos.succ (Pos.succ nx)),.i .i64 (.ofNat n)]=some [.slice (some ⟨x4.1,0,none⟩) 1 x4.2.1,.slice (some ⟨x3.1,0,none⟩) 1 x3.2.1,.map (some x2.1),.int .i64 (n:Int)]:=by
   simp [dens,den1,den0,d1,c1,b1]
  rw [this] at a2
  exact (Option.some.inj a2).symm
 rw [hd,hc,m4,m3,hv] at s4
 refine st_in (b:=x1.1) (o:=x1.2.1) (l:=[]) a1 .nil rfl hn ?_
 rw [mem_none h4]
 refine st_close ⟨x4.1,x4.2.1,x3.1,x3.2.1,x2.1,[0]⟩ ?_
 have s5:Sts W0 W (Fact (StoreG [] [0])::_):=Sts.to_fact ⟨rfl,List.nodup_nil,by simp⟩ s4
 refine s5.perm ?_
 exact perm5 _ _ _ _ _ _
theorem new49_ok (hF:ftab0.Ok Tryz.prog W0) (hmix:Tryz.prog.follows .mixedOrders=true):BSnd Tryz.prog W0 49 new49:=by
 refine ⟨en49,fun vs me nx v me' nx' h W R g xs hf hx hm=>?_,fun vs me nx v me' nx' h=>?_⟩
 ·unfold new49 at h
  split at h
  ·rename_i n
   cases hb:(bif Nat.beq n 5000 then true else Nat.beq n 65536) with
   | false=>rw [hb] at h; cases h
   | true =>
    rw [hb] at h
    have hn:n=5000∨n=65536:=by
     cases h1:Nat.beq n 5000 with
     | true=>exact .inl (Nat.eq_of_beq_eq_true h1)
     | false=>rw [h1] at hb; exact .inr (Nat.eq_of_beq_eq_true hb)
    injection h with h1 h2 h3; subst h1; subst h2; subst h3
    obtain ⟨fn,f1,f2,f3⟩:=ck49
    refine fn_calls none_cl hF hmix endd f1 f2 (run49 n hn me nx) (by intro e; cases e) W xs hf hx hm (fun v' m nx2 e g' x w' k1 k2 k3 k4 k5=>?_) (fun v' m nx2 e=>by cases e)
    injection e with e1 e2 e3; subst e1; subst e2; subst e3
    have e1:=Pos.nat_succ nx
    have e2:=Pos.nat_succ (Pos.succ nx)
    have e3:=Pos.nat_succ (Pos.succ (Pos.succ nx))
    refine ⟨g',x,rfl,k1,k2,k3,k4,new_sts (by omega) (get_nx hm hf) (get_nx hm (hf.mono (by omega))) (get_nx hm (hf.mono (by omega))) (get_nx hm (hf.mono (by omega))) k5⟩
  ·cases h
 ·unfold new49 at h
  split at h
  ·rename_i n
   cases hb:(bif Nat.beq n 5000 then true else Nat.beq n 65536) with
   | false=>rw [hb] at h; cases h
   | true=>rw [hb] at h; cases h
  ·cases h
end
end EV
end Go.Proofs.YtadggjnohohedaaGreatDoor
