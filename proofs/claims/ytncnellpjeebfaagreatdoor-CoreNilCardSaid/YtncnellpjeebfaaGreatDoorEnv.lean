/- The tables of the functions and types that the run reaches, and that they are the program's. No condition. -/
import Derived.Test.YtncnellpjeebfaaGreatDoorProg
import Derived.Test.YtncnellpjeebfaaGreatDoorAmF
import Derived.KernelRfl
namespace Go.Proofs.YtncnellpjeebfaaGreatDoor
open Go Go.AM
def t2 : TI := ⟨.int .i64, 1, 8, [.int .i64 0], false, true⟩
def t3 : TI := ⟨.int .i64, 1, 8, [.int .i64 0], false, true⟩
def t4 : TI := ⟨.bool, 1, 1, [.bool false], false, true⟩
def t5 : TI := ⟨.int .u8, 1, 1, [.int .u8 0], false, true⟩
def t9 : TI := ⟨.string, 1, 16, [.str []], false, true⟩
def t20 : TI := ⟨.interface #[], 1, 16, [.nilIface], false, true⟩
def t22 : TI := ⟨.slice 25, 1, 24, [.slice none 0 (.exact 0)], false, false⟩
def t24 : TI := ⟨.pointer 35, 1, 8, [.ptr none], false, true⟩
def t25 : TI := ⟨.int .u32, 1, 4, [.int .u32 0], false, true⟩
def t26 : TI := ⟨.array 32 25, 32, 128, [.int .u32 0, .int .u32 0, .int .u32 0, .int .u32 0, .int .u32 0, .int .u32 0, .int .u32 0, .int .u32 0, .int .u32 0, .int .u32 0, .int .u32 0, .int .u32 0, .int .u32 0, .int .u32 0, .int .u32 0, .int .u32 0, .int .u32 0, .int .u32 0, .int .u32 0, .int .u32 0, .int .u32 0, .int .u32 0, .int .u32 0, .int .u32 0, .int .u32 0, .int .u32 0, .int .u32 0, .int .u32 0, .int .u32 0, .int .u32 0, .int .u32 0, .int .u32 0], true, true⟩
def t27 : TI := ⟨.int .i64, 1, 8, [.int .i64 0], false, true⟩
def t29 : TI := ⟨.struct #[⟨ "Id", 3, 0, false, "", "", 0⟩, ⟨ "Pc", 25, 1, false, "", "", 8⟩, ⟨ "Regs", 26, 2, false, "", "", 12⟩, ⟨ "Cause", 27, 34, false, "", "", 144⟩], 35, 152, [.int .i64 0, .int .u32 0, .int .u32 0, .int .u32 0, .int .u32 0, .int .u32 0, .int .u32 0, .int .u32 0, .int .u32 0, .int .u32 0, .int .u32 0, .int .u32 0, .int .u32 0, .int .u32 0, .int .u32 0, .int .u32 0, .int .u32 0, .int .u32 0, .int .u32 0, .int .u32 0, .int .u32 0, .int .u32 0, .int .u32 0, .int .u32 0, .int .u32 0, .int .u32 0, .int .u32 0, .int .u32 0, .int .u32 0, .int .u32 0, .int .u32 0, .int .u32 0, .int .u32 0, .int .u32 0, .int .i64 0], true, true⟩
def t31 : TI := ⟨.struct #[⟨ "h", 29, 0, false, "", "quadrille/core", 0⟩, ⟨ "code", 22, 35, false, "", "quadrille/core", 152⟩, ⟨ "size", 3, 36, false, "", "quadrille/core", 176⟩], 37, 184, [.int .i64 0, .int .u32 0, .int .u32 0, .int .u32 0, .int .u32 0, .int .u32 0, .int .u32 0, .int .u32 0, .int .u32 0, .int .u32 0, .int .u32 0, .int .u32 0, .int .u32 0, .int .u32 0, .int .u32 0, .int .u32 0, .int .u32 0, .int .u32 0, .int .u32 0, .int .u32 0, .int .u32 0, .int .u32 0, .int .u32 0, .int .u32 0, .int .u32 0, .int .u32 0, .int .u32 0, .int .u32 0, .int .u32 0, .int .u32 0, .int .u32 0, .int .u32 0, .int .u32 0, .int .u32 0, .int .i64 0, .slice none 0 (.exact 0), .int .i64 0], true, false⟩
def t32 : TI := ⟨.pointer 102, 1, 8, [.ptr none], false, true⟩
def t33 : TI := ⟨.pointer 25, 1, 8, [.ptr none], false, true⟩
def t35 : TI := ⟨.struct #[⟨ "state", 31, 0, true, "", "quadrille/core", 0⟩, ⟨ "b", 32, 37, false, "", "quadrille/core", 184⟩, ⟨ "first", 3, 38, false, "", "quadrille/core", 192⟩, ⟨ "reserved", 33, 39, false, "", "quadrille/core", 200⟩], 40, 208, [.int .i64 0, .int .u32 0, .int .u32 0, .int .u32 0, .int .u32 0, .int .u32 0, .int .u32 0, .int .u32 0, .int .u32 0, .int .u32 0, .int .u32 0, .int .u32 0, .int .u32 0, .int .u32 0, .int .u32 0, .int .u32 0, .int .u32 0, .int .u32 0, .int .u32 0, .int .u32 0, .int .u32 0, .int .u32 0, .int .u32 0, .int .u32 0, .int .u32 0, .int .u32 0, .int .u32 0, .int .u32 0, .int .u32 0, .int .u32 0, .int .u32 0, .int .u32 0, .int .u32 0, .int .u32 0, .int .i64 0, .slice none 0 (.exact 0), .int .i64 0, .ptr none, .int .i64 0, .ptr none], true, false⟩
def t36 : TI := ⟨.pointer 72, 1, 8, [.ptr none], false, true⟩
def t37 : TI := ⟨.int .i64, 1, 8, [.int .i64 0], false, true⟩
def t42 : TI := ⟨.int .i64, 1, 8, [.int .i64 0], false, true⟩
def t43 : TI := ⟨.int .i64, 1, 8, [.int .i64 0], false, true⟩
def t44 : TI := ⟨.int .i64, 1, 8, [.int .i64 0], false, true⟩
def t46 : TI := ⟨.struct #[⟨ "Kind", 43, 0, false, "", "", 0⟩, ⟨ "Addr", 25, 1, false, "", "", 8⟩, ⟨ "Width", 3, 2, false, "", "", 16⟩, ⟨ "Value", 25, 3, false, "", "", 24⟩, ⟨ "Op", 44, 4, false, "", "", 32⟩, ⟨ "Aq", 4, 5, false, "", "", 40⟩, ⟨ "Rl", 4, 6, false, "", "", 41⟩], 7, 48, [.int .i64 0, .int .u32 0, .int .i64 0, .int .u32 0, .int .i64 0, .bool false, .bool false], true, true⟩
def t48 : TI := ⟨.struct #[⟨ "Value", 25, 0, false, "", "", 0⟩, ⟨ "Ok", 4, 1, false, "", "", 4⟩], 2, 8, [.int .u32 0, .bool false], true, true⟩
def t50 : TI := ⟨.struct #[⟨ "Pc", 25, 0, false, "", "", 0⟩, ⟨ "Word", 25, 1, false, "", "", 4⟩, ⟨ "Access", 46, 2, false, "", "", 8⟩, ⟨ "Answer", 48, 9, false, "", "", 56⟩, ⟨ "Rd", 3, 11, false, "", "", 64⟩, ⟨ "Value", 25, 12, false, "", "", 72⟩, ⟨ "Cause", 27, 13, false, "", "", 80⟩], 14, 88, [.int .u32 0, .int .u32 0, .int .i64 0, .int .u32 0, .int .i64 0, .int .u32 0, .int .i64 0, .bool false, .bool false, .int .u32 0, .bool false, .int .i64 0, .int .u32 0, .int .i64 0], true, true⟩
def t52 : TI := ⟨.struct #[⟨ "Addr", 25, 0, false, "", "", 0⟩, ⟨ "Width", 3, 1, false, "", "", 8⟩, ⟨ "Value", 25, 2, false, "", "", 16⟩], 3, 24, [.int .u32 0, .int .i64 0, .int .u32 0], true, true⟩
def t54 : TI := ⟨.struct #[⟨ "Kind", 42, 0, false, "", "", 0⟩, ⟨ "Hart", 3, 1, false, "", "", 8⟩, ⟨ "Commit", 50, 2, false, "", "", 16⟩, ⟨ "Store", 52, 16, false, "", "", 104⟩, ⟨ "Own", 3, 19, false, "", "", 128⟩], 20, 136, [.int .i64 0, .int .i64 0, .int .u32 0, .int .u32 0, .int .i64 0, .int .u32 0, .int .i64 0, .int .u32 0, .int .i64 0, .bool false, .bool false, .int .u32 0, .bool false, .int .i64 0, .int .u32 0, .int .i64 0, .int .u32 0, .int .i64 0, .int .u32 0, .int .i64 0], true, true⟩
def t55 : TI := ⟨.slice 159, 1, 24, [.slice none 0 (.exact 0)], false, false⟩
def t62 : TI := ⟨.slice 52, 1, 24, [.slice none 0 (.exact 0)], false, false⟩
def t66 : TI := ⟨.pointer 97, 1, 8, [.ptr none], false, true⟩
def t69 : TI := ⟨.pointer 104, 1, 8, [.ptr none], false, true⟩
def t70 : TI := ⟨.pointer 107, 1, 8, [.ptr none], false, true⟩
def t72 : TI := ⟨.struct #[⟨ "id", 3, 0, false, "", "quadrille/cache", 0⟩, ⟨ "l", 66, 1, false, "", "quadrille/cache", 8⟩, ⟨ "asked", 69, 2, false, "", "quadrille/cache", 16⟩, ⟨ "given", 70, 3, false, "", "quadrille/cache", 24⟩], 4, 32, [.int .i64 0, .ptr none, .ptr none, .ptr none], true, true⟩
def t79 : TI := ⟨.pointer 81, 1, 8, [.ptr none], false, true⟩
def t81 : TI := ⟨.struct #[⟨ "Core", 24, 0, true, "", "", 0⟩, ⟨ "m", 36, 1, false, "", "quadrille/core", 8⟩, ⟨ "pick", 3, 2, false, "", "quadrille/core", 16⟩, ⟨ "word", 25, 3, false, "", "quadrille/core", 24⟩, ⟨ "a", 46, 4, false, "", "quadrille/core", 32⟩], 11, 80, [.ptr none, .ptr none, .int .i64 0, .int .u32 0, .int .i64 0, .int .u32 0, .int .i64 0, .int .u32 0, .int .i64 0, .bool false, .bool false], true, true⟩
def t84 : TI := ⟨.func #[79] #[54] false, 1, 8, [.nilFunc], false, false⟩
def t85 : TI := ⟨.map 43 84, 1, 8, [.map none], false, false⟩
def t93 : TI := ⟨.int .i64, 1, 8, [.int .i64 0], false, true⟩
def t95 : TI := ⟨.slice 132, 1, 24, [.slice none 0 (.exact 0)], false, false⟩
def t97 : TI := ⟨.struct #[⟨ "sets", 95, 0, false, "", "quadrille/lines", 0⟩, ⟨ "ways", 3, 1, false, "", "quadrille/lines", 24⟩], 2, 32, [.slice none 0 (.exact 0), .int .i64 0], true, false⟩
def t99 : TI := ⟨.struct #[⟨ "Store", 52, 0, true, "", "", 0⟩], 3, 24, [.int .u32 0, .int .i64 0, .int .u32 0], true, true⟩
def t100 : TI := ⟨.array 4 99, 12, 96, [.int .u32 0, .int .i64 0, .int .u32 0, .int .u32 0, .int .i64 0, .int .u32 0, .int .u32 0, .int .i64 0, .int .u32 0, .int .u32 0, .int .i64 0, .int .u32 0], true, true⟩
def t102 : TI := ⟨.struct #[⟨ "ring", 100, 0, false, "", "quadrille/buffer", 0⟩, ⟨ "first", 3, 12, false, "", "quadrille/buffer", 96⟩, ⟨ "n", 3, 13, false, "", "quadrille/buffer", 104⟩], 14, 112, [.int .u32 0, .int .i64 0, .int .u32 0, .int .u32 0, .int .i64 0, .int .u32 0, .int .u32 0, .int .i64 0, .int .u32 0, .int .u32 0, .int .i64 0, .int .u32 0, .int .i64 0, .int .i64 0], true, true⟩
def t104 : TI := ⟨.struct #[⟨ "line", 25, 0, false, "", "quadrille/cache", 0⟩, ⟨ "write", 4, 1, false, "", "quadrille/cache", 4⟩], 2, 8, [.int .u32 0, .bool false], true, true⟩
def t105 : TI := ⟨.array 16 5, 16, 16, [.int .u8 0, .int .u8 0, .int .u8 0, .int .u8 0, .int .u8 0, .int .u8 0, .int .u8 0, .int .u8 0, .int .u8 0, .int .u8 0, .int .u8 0, .int .u8 0, .int .u8 0, .int .u8 0, .int .u8 0, .int .u8 0], true, true⟩
def t107 : TI := ⟨.struct #[⟨ "Number", 25, 0, false, "", "", 0⟩, ⟨ "State", 93, 1, false, "", "", 8⟩, ⟨ "Bytes", 105, 2, false, "", "", 16⟩], 18, 32, [.int .u32 0, .int .i64 0, .int .u8 0, .int .u8 0, .int .u8 0, .int .u8 0, .int .u8 0, .int .u8 0, .int .u8 0, .int .u8 0, .int .u8 0, .int .u8 0, .int .u8 0, .int .u8 0, .int .u8 0, .int .u8 0, .int .u8 0, .int .u8 0], true, true⟩
def t112 : TI := ⟨.struct #[⟨ "Op", 44, 0, false, "", "", 0⟩, ⟨ "Rd", 3, 1, false, "", "", 8⟩, ⟨ "Rs1", 3, 2, false, "", "", 16⟩, ⟨ "Rs2", 3, 3, false, "", "", 24⟩, ⟨ "Imm", 25, 4, false, "", "", 32⟩, ⟨ "Aq", 4, 5, false, "", "", 36⟩, ⟨ "Rl", 4, 6, false, "", "", 37⟩], 7, 40, [.int .i64 0, .int .i64 0, .int .i64 0, .int .i64 0, .int .u32 0, .bool false, .bool false], true, true⟩
def t116 : TI := ⟨.struct #[⟨ "l", 55, 0, false, "", "quadrille/core", 0⟩], 1, 24, [.slice none 0 (.exact 0)], true, false⟩
def t132 : TI := ⟨.slice 107, 1, 24, [.slice none 0 (.exact 0)], false, false⟩
def t136 : TI := ⟨.struct #[⟨ "why", 27, 0, false, "", "quadrille/hart", 0⟩], 1, 8, [.int .i64 0], true, true⟩
def t143 : TI := ⟨.int .i64, 1, 8, [.int .i64 0], false, true⟩
def t157 : TI := ⟨.int .i64, 1, 8, [.int .i64 0], false, true⟩
def t159 : TI := ⟨.struct #[⟨ "Kind", 157, 0, false, "", "", 0⟩, ⟨ "From", 3, 1, false, "", "", 8⟩, ⟨ "To", 3, 2, false, "", "", 16⟩, ⟨ "Line", 25, 3, false, "", "", 24⟩, ⟨ "Bytes", 105, 4, false, "", "", 28⟩], 20, 48, [.int .i64 0, .int .i64 0, .int .i64 0, .int .u32 0, .int .u8 0, .int .u8 0, .int .u8 0, .int .u8 0, .int .u8 0, .int .u8 0, .int .u8 0, .int .u8 0, .int .u8 0, .int .u8 0, .int .u8 0, .int .u8 0, .int .u8 0, .int .u8 0, .int .u8 0, .int .u8 0], true, true⟩
def t162 : TI := ⟨.func #[25] #[4] false, 1, 8, [.nilFunc], false, false⟩
def t163 : TI := ⟨.func #[25] #[25] false, 1, 8, [.nilFunc], false, false⟩
def t164 : TI := ⟨.func #[112] #[9] false, 1, 8, [.nilFunc], false, false⟩
def t166 : TI := ⟨.struct #[⟨ "mask", 25, 0, false, "", "quadrille/isa", 0⟩, ⟨ "rd", 4, 1, false, "", "quadrille/isa", 4⟩, ⟨ "rs1", 4, 2, false, "", "quadrille/isa", 5⟩, ⟨ "rs2", 4, 3, false, "", "quadrille/isa", 6⟩, ⟨ "a", 4, 4, false, "", "quadrille/isa", 7⟩, ⟨ "may", 162, 5, false, "", "quadrille/isa", 8⟩, ⟨ "put", 163, 6, false, "", "quadrille/isa", 16⟩, ⟨ "take", 163, 7, false, "", "quadrille/isa", 24⟩, ⟨ "told", 164, 8, false, "", "quadrille/isa", 32⟩], 9, 40, [.int .u32 0, .bool false, .bool false, .bool false, .bool false, .nilFunc, .nilFunc, .nilFunc, .nilFunc], true, false⟩
def t168 : TI := ⟨.struct #[⟨ "op", 44, 0, false, "", "quadrille/isa", 0⟩, ⟨ "name", 9, 1, false, "", "quadrille/isa", 8⟩, ⟨ "form", 166, 2, false, "", "quadrille/isa", 24⟩, ⟨ "bits", 25, 11, false, "", "quadrille/isa", 64⟩], 12, 72, [.int .i64 0, .str [], .int .u32 0, .bool false, .bool false, .bool false, .bool false, .nilFunc, .nilFunc, .nilFunc, .nilFunc, .int .u32 0], true, false⟩
def t172 : TI := ⟨.pointer 3, 1, 8, [.ptr none], false, true⟩
def t173 : TI := ⟨.struct #[⟨ "has", 4, 0, false, "", "quadrille/isa", 0⟩, ⟨ "to", 172, 1, false, "", "quadrille/isa", 8⟩, ⟨ "lo", 3, 2, false, "", "quadrille/isa", 16⟩], 3, 24, [.bool false, .ptr none, .int .i64 0], true, true⟩
def t174 : TI := ⟨.slice 173, 1, 24, [.slice none 0 (.exact 0)], false, false⟩
def t176 : TI := ⟨.map 44 3, 1, 8, [.map none], false, false⟩
def t178 : TI := ⟨.func #[25, 25] #[25] false, 1, 8, [.nilFunc], false, false⟩
def t180 : TI := ⟨.func #[25, 25] #[4] false, 1, 8, [.nilFunc], false, false⟩
def t182 : TI := ⟨.map 44 180, 1, 8, [.map none], false, false⟩
def t187 : TI := ⟨.int .u64, 1, 8, [.int .u64 0], false, true⟩
def t196 : TI := ⟨.func #[168] #[4] false, 1, 8, [.nilFunc], false, false⟩
def t197 : TI := ⟨.map 9 166, 1, 8, [.map none], false, false⟩
def t199 : TI := ⟨.slice 9, 1, 24, [.slice none 0 (.exact 0)], false, false⟩
def t200 : TI := ⟨.func #[9, 25, 199] #[4] true, 1, 8, [.nilFunc], false, false⟩
def t218 : TI := ⟨.array 256 5, 256, 256, (repl 256 [.int .u8 0]), true, true⟩
def t231 : TI := ⟨.map 44 178, 1, 8, [.map none], false, false⟩
def tyT : Tr TI := (.node (.node (.node (.node (.node (.node .leaf (some t31) (.node (.node .leaf (some t159) .leaf) (some t95) .leaf)) none (.node (.node (.node .leaf (some t143) .leaf) (some t79) .leaf) none .leaf)) none (.node (.node (.node .leaf none (.node .leaf (some t199) .leaf)) none (.node .leaf none (.node .leaf (some t231) .leaf))) none (.node .leaf (some t55) .leaf))) (some t3) (.node (.node (.node .leaf (some t35) (.node (.node .leaf (some t163) .leaf) (some t99) .leaf)) none .leaf) none (.node (.node .leaf (some t43) (.node .leaf (some t107) .leaf)) (some t27) (.node .leaf none (.node (.node .leaf (some t187) .leaf) none .leaf))))) none (.node (.node (.node (.node .leaf (some t33) (.node .leaf (some t97) .leaf)) none (.node (.node .leaf (some t81) .leaf) none .leaf)) (some t9) (.node (.node .leaf none (.node .leaf (some t105) .leaf)) (some t25) .leaf)) (some t5) (.node (.node (.node (.node .leaf (some t69) (.node .leaf (some t197) .leaf)) (some t37) .leaf) none (.node (.node .leaf (some t85) .leaf) none .leaf)) none (.node (.node .leaf none (.node (.node .leaf (some t173) .leaf) none .leaf)) (some t29) (.node (.node (.node .leaf (some t157) .leaf) (some t93) .leaf) none .leaf))))) none (.node (.node (.node (.node (.node .leaf (some t32) .leaf) none (.node .leaf (some t48) (.node (.node .leaf (some t176) .leaf) (some t112) .leaf))) none (.node (.node (.node (.node .leaf (some t136) .leaf) (some t72) (.node .leaf (some t200) .leaf)) none (.node (.node .leaf (some t168) .leaf) (some t104) .leaf)) (some t24) .leaf)) (some t4) (.node (.node (.node (.node (.node .leaf (some t132) .leaf) none (.node .leaf (some t196) .leaf)) (some t36) (.node (.node .leaf (some t164) .leaf) (some t100) .leaf)) (some t20) (.node (.node .leaf (some t84) .leaf) (some t52) (.node (.node .leaf (some t180) .leaf) (some t116) .leaf))) none (.node (.node .leaf (some t44) (.node (.node .leaf (some t172) .leaf) none .leaf)) none .leaf))) (some t2) (.node (.node (.node (.node (.node .leaf (some t66) .leaf) none (.node (.node .leaf (some t162) .leaf) none .leaf)) none (.node .leaf (some t50) (.node (.node .leaf (some t178) .leaf) none .leaf))) none (.node (.node .leaf (some t42) .leaf) (some t26) (.node (.node .leaf none (.node .leaf (some t218) .leaf)) none .leaf))) none (.node (.node (.node (.node .leaf (some t70) .leaf) none (.node (.node .leaf (some t166) .leaf) (some t102) .leaf)) (some t22) (.node .leaf (some t54) (.node (.node .leaf (some t182) .leaf) none .leaf))) none (.node (.node .leaf (some t46) (.node (.node .leaf (some t174) .leaf) none .leaf)) none (.node .leaf (some t62) .leaf))))))
noncomputable def fnT : Tr FI := (.node (.node (.node (.node (.node (.node (.node .leaf (some (fiOfFn Tryz.f63)) .leaf) none .leaf) (some (fiOfFn Tryz.f15)) (.node (.node .leaf (some (fiOfFn Tryz.f79)) .leaf) (some (fiOfFn Tryz.f47)) .leaf)) (some (fiOfFn Tryz.f7)) (.node (.node .leaf (some (fiOfFn Tryz.f39)) .leaf) (some (fiOfFn Tryz.f23)) (.node (.node .leaf (some (fiOfFn Tryz.f87)) .leaf) (some (fiOfFn Tryz.f55)) .leaf))) (some (fiOfFn Tryz.f3)) (.node (.node (.node (.node (.node .leaf (some (fiOfFn Tryz.f131)) .leaf) (some (fiOfFn Tryz.f67)) .leaf) (some (fiOfFn Tryz.f35)) (.node .leaf (some (fiOfFn Tryz.f99)) .leaf)) (some (fiOfFn Tryz.f19)) (.node (.node .leaf (some (fiOfFn Tryz.f83)) .leaf) none (.node .leaf (some (fiOfFn Tryz.f115)) .leaf))) (some (fiOfFn Tryz.f11)) (.node (.node .leaf none (.node .leaf (some (fiOfFn Tryz.f107)) .leaf)) (some (fiOfFn Tryz.f27)) (.node .leaf (some (fiOfFn Tryz.f59)) .leaf)))) none (.node (.node (.node (.node (.node .leaf (some (fiOfFn Tryz.f65)) .leaf) none (.node .leaf (some (fiOfFn Tryz.f97)) .leaf)) (some (fiOfFn Tryz.f17)) (.node (.node .leaf (some (fiOfFn Tryz.f81)) .leaf) none (.node .leaf (some (fiOfFn Tryz.f113)) .leaf))) (some (fiOfFn Tryz.f9)) (.node (.node .leaf (some (fiOfFn Tryz.f41)) .leaf) none (.node (.node .leaf (some (fiOfFn Tryz.f89)) .leaf) (some (fiOfFn Tryz.f57)) .leaf))) (some (fiOfFn Tryz.f5)) (.node (.node (.node .leaf (some (fiOfFn Tryz.f37)) .leaf) (some (fiOfFn Tryz.f21)) (.node (.node (.node .leaf (some (fiOfFn Tryz.f149)) .leaf) (some (fiOfFn Tryz.f85)) .leaf) none .leaf)) (some (fiOfFn Tryz.f13)) (.node (.node (.node (.node .leaf (some (fiOfFn Tryz.f141)) .leaf) (some (fiOfFn Tryz.f77)) .leaf) none (.node .leaf (some (fiOfFn Tryz.f109)) .leaf)) none (.node .leaf (some (fiOfFn Tryz.f61)) .leaf))))) none (.node (.node (.node (.node (.node (.node .leaf (some (fiOfFn Tryz.f64)) .leaf) (some (fiOfFn Tryz.f32)) (.node .leaf (some (fiOfFn Tryz.f96)) .leaf)) (some (fiOfFn Tryz.f16)) (.node (.node .leaf (some (fiOfFn Tryz.f80)) .leaf) (some (fiOfFn Tryz.f48)) .leaf)) (some (fiOfFn Tryz.f8)) (.node (.node .leaf (some (fiOfFn Tryz.f40)) .leaf) (some (fiOfFn Tryz.f24)) (.node .leaf (some (fiOfFn Tryz.f56)) .leaf))) (some (fiOfFn Tryz.f4)) (.node (.node (.node .leaf (some (fiOfFn Tryz.f36)) (.node .leaf (some (fiOfFn Tryz.f100)) .leaf)) (some (fiOfFn Tryz.f20)) (.node (.node .leaf (some (fiOfFn Tryz.f84)) .leaf) none .leaf)) (some (fiOfFn Tryz.f12)) (.node (.node (.node .leaf (some (fiOfFn Tryz.f76)) .leaf) none (.node .leaf (some (fiOfFn Tryz.f108)) .leaf)) none (.node .leaf (some (fiOfFn Tryz.f60)) .leaf)))) none (.node (.node (.node (.node .leaf (some (fiOfFn Tryz.f34)) (.node .leaf (some (fiOfFn Tryz.f98)) .leaf)) (some (fiOfFn Tryz.f18)) (.node (.node .leaf (some (fiOfFn Tryz.f82)) .leaf) none (.node .leaf (some (fiOfFn Tryz.f114)) .leaf))) (some (fiOfFn Tryz.f10)) (.node (.node .leaf (some (fiOfFn Tryz.f42)) (.node .leaf (some (fiOfFn Tryz.f106)) .leaf)) none (.node .leaf (some (fiOfFn Tryz.f58)) .leaf))) (some (fiOfFn Tryz.f6)) (.node (.node (.node .leaf (some (fiOfFn Tryz.f38)) .leaf) (some (fiOfFn Tryz.f22)) (.node (.node .leaf (some (fiOfFn Tryz.f86)) .leaf) (some (fiOfFn Tryz.f54)) .leaf)) (some (fiOfFn Tryz.f14)) (.node (.node (.node .leaf (some (fiOfFn Tryz.f78)) .leaf) none .leaf) none (.node (.node (.node .leaf (some (fiOfFn Tryz.f158)) .leaf) none .leaf) (some (fiOfFn Tryz.f62)) .leaf))))))
def xtT : Tr XK := .leaf
noncomputable def E : Env := ⟨tyT.get, fnT.get, fun f => match xtT.get f with | some k => k | none => .none, 7⟩
-- root quadrille/quadrillelaw15.CoreNil (some 3)
-- root quadrille/quadrillelaw15.known (some 4)
-- root quadrille/isa.Decode (some 59)
-- global 0 strings.asciiSpace type 218
-- global 1 unicode.White_Space type 229
-- global 2 internal/strconv.uint64pow10 type 262
-- global 3 internal/bytealg.MaxLen type 3
-- global 4 math/bits.deBruijn32tab type 277
-- global 5 math/bits.deBruijn64tab type 278
-- global 6 unicode._White_Space type 229
theorem tok2 : TIok Tryz.prog 2 t2 := ti_chk (by kernel_rfl) (by kernel_rfl) (by kernel_rfl) (by kernel_rfl) (by kernel_rfl) (by kernel_rfl) (by kernel_rfl) (by kernel_rfl) (by kernel_rfl) (by kernel_rfl)
theorem tok3 : TIok Tryz.prog 3 t3 := ti_chk (by kernel_rfl) (by kernel_rfl) (by kernel_rfl) (by kernel_rfl) (by kernel_rfl) (by kernel_rfl) (by kernel_rfl) (by kernel_rfl) (by kernel_rfl) (by kernel_rfl)
theorem tok4 : TIok Tryz.prog 4 t4 := ti_chk (by kernel_rfl) (by kernel_rfl) (by kernel_rfl) (by kernel_rfl) (by kernel_rfl) (by kernel_rfl) (by kernel_rfl) (by kernel_rfl) (by kernel_rfl) (by kernel_rfl)
theorem tok5 : TIok Tryz.prog 5 t5 := ti_chk (by kernel_rfl) (by kernel_rfl) (by kernel_rfl) (by kernel_rfl) (by kernel_rfl) (by kernel_rfl) (by kernel_rfl) (by kernel_rfl) (by kernel_rfl) (by kernel_rfl)
theorem tok9 : TIok Tryz.prog 9 t9 := ti_chk (by kernel_rfl) (by kernel_rfl) (by kernel_rfl) (by kernel_rfl) (by kernel_rfl) (by kernel_rfl) (by kernel_rfl) (by kernel_rfl) (by kernel_rfl) (by kernel_rfl)
theorem tok20 : TIok Tryz.prog 20 t20 := ti_chk (by kernel_rfl) (by kernel_rfl) (by kernel_rfl) (by kernel_rfl) (by kernel_rfl) (by kernel_rfl) (by kernel_rfl) (by kernel_rfl) (by kernel_rfl) (by kernel_rfl)
theorem tok22 : TIok Tryz.prog 22 t22 := ti_chk (by kernel_rfl) (by kernel_rfl) (by kernel_rfl) (by kernel_rfl) (by kernel_rfl) (by kernel_rfl) (by kernel_rfl) (by kernel_rfl) (by kernel_rfl) (by kernel_rfl)
theorem tok24 : TIok Tryz.prog 24 t24 := ti_chk (by kernel_rfl) (by kernel_rfl) (by kernel_rfl) (by kernel_rfl) (by kernel_rfl) (by kernel_rfl) (by kernel_rfl) (by kernel_rfl) (by kernel_rfl) (by kernel_rfl)
theorem tok25 : TIok Tryz.prog 25 t25 := ti_chk (by kernel_rfl) (by kernel_rfl) (by kernel_rfl) (by kernel_rfl) (by kernel_rfl) (by kernel_rfl) (by kernel_rfl) (by kernel_rfl) (by kernel_rfl) (by kernel_rfl)
theorem tok26 : TIok Tryz.prog 26 t26 := ti_chk (by kernel_rfl) (by kernel_rfl) (by kernel_rfl) (by kernel_rfl) (by kernel_rfl) (by kernel_rfl) (by kernel_rfl) (by kernel_rfl) (by kernel_rfl) (by kernel_rfl)
theorem tok27 : TIok Tryz.prog 27 t27 := ti_chk (by kernel_rfl) (by kernel_rfl) (by kernel_rfl) (by kernel_rfl) (by kernel_rfl) (by kernel_rfl) (by kernel_rfl) (by kernel_rfl) (by kernel_rfl) (by kernel_rfl)
theorem tok29 : TIok Tryz.prog 29 t29 := ti_chk (by kernel_rfl) (by kernel_rfl) (by kernel_rfl) (by kernel_rfl) (by kernel_rfl) (by kernel_rfl) (by kernel_rfl) (by kernel_rfl) (by kernel_rfl) (by kernel_rfl)
theorem tok31 : TIok Tryz.prog 31 t31 := ti_chk (by kernel_rfl) (by kernel_rfl) (by kernel_rfl) (by kernel_rfl) (by kernel_rfl) (by kernel_rfl) (by kernel_rfl) (by kernel_rfl) (by kernel_rfl) (by kernel_rfl)
theorem tok32 : TIok Tryz.prog 32 t32 := ti_chk (by kernel_rfl) (by kernel_rfl) (by kernel_rfl) (by kernel_rfl) (by kernel_rfl) (by kernel_rfl) (by kernel_rfl) (by kernel_rfl) (by kernel_rfl) (by kernel_rfl)
theorem tok33 : TIok Tryz.prog 33 t33 := ti_chk (by kernel_rfl) (by kernel_rfl) (by kernel_rfl) (by kernel_rfl) (by kernel_rfl) (by kernel_rfl) (by kernel_rfl) (by kernel_rfl) (by kernel_rfl) (by kernel_rfl)
theorem tok35 : TIok Tryz.prog 35 t35 := ti_chk (by kernel_rfl) (by kernel_rfl) (by kernel_rfl) (by kernel_rfl) (by kernel_rfl) (by kernel_rfl) (by kernel_rfl) (by kernel_rfl) (by kernel_rfl) (by kernel_rfl)
theorem tok36 : TIok Tryz.prog 36 t36 := ti_chk (by kernel_rfl) (by kernel_rfl) (by kernel_rfl) (by kernel_rfl) (by kernel_rfl) (by kernel_rfl) (by kernel_rfl) (by kernel_rfl) (by kernel_rfl) (by kernel_rfl)
theorem tok37 : TIok Tryz.prog 37 t37 := ti_chk (by kernel_rfl) (by kernel_rfl) (by kernel_rfl) (by kernel_rfl) (by kernel_rfl) (by kernel_rfl) (by kernel_rfl) (by kernel_rfl) (by kernel_rfl) (by kernel_rfl)
theorem tok42 : TIok Tryz.prog 42 t42 := ti_chk (by kernel_rfl) (by kernel_rfl) (by kernel_rfl) (by kernel_rfl) (by kernel_rfl) (by kernel_rfl) (by kernel_rfl) (by kernel_rfl) (by kernel_rfl) (by kernel_rfl)
theorem tok43 : TIok Tryz.prog 43 t43 := ti_chk (by kernel_rfl) (by kernel_rfl) (by kernel_rfl) (by kernel_rfl) (by kernel_rfl) (by kernel_rfl) (by kernel_rfl) (by kernel_rfl) (by kernel_rfl) (by kernel_rfl)
theorem tok44 : TIok Tryz.prog 44 t44 := ti_chk (by kernel_rfl) (by kernel_rfl) (by kernel_rfl) (by kernel_rfl) (by kernel_rfl) (by kernel_rfl) (by kernel_rfl) (by kernel_rfl) (by kernel_rfl) (by kernel_rfl)
theorem tok46 : TIok Tryz.prog 46 t46 := ti_chk (by kernel_rfl) (by kernel_rfl) (by kernel_rfl) (by kernel_rfl) (by kernel_rfl) (by kernel_rfl) (by kernel_rfl) (by kernel_rfl) (by kernel_rfl) (by kernel_rfl)
theorem tok48 : TIok Tryz.prog 48 t48 := ti_chk (by kernel_rfl) (by kernel_rfl) (by kernel_rfl) (by kernel_rfl) (by kernel_rfl) (by kernel_rfl) (by kernel_rfl) (by kernel_rfl) (by kernel_rfl) (by kernel_rfl)
theorem tok50 : TIok Tryz.prog 50 t50 := ti_chk (by kernel_rfl) (by kernel_rfl) (by kernel_rfl) (by kernel_rfl) (by kernel_rfl) (by kernel_rfl) (by kernel_rfl) (by kernel_rfl) (by kernel_rfl) (by kernel_rfl)
theorem tok52 : TIok Tryz.prog 52 t52 := ti_chk (by kernel_rfl) (by kernel_rfl) (by kernel_rfl) (by kernel_rfl) (by kernel_rfl) (by kernel_rfl) (by kernel_rfl) (by kernel_rfl) (by kernel_rfl) (by kernel_rfl)
theorem tok54 : TIok Tryz.prog 54 t54 := ti_chk (by kernel_rfl) (by kernel_rfl) (by kernel_rfl) (by kernel_rfl) (by kernel_rfl) (by kernel_rfl) (by kernel_rfl) (by kernel_rfl) (by kernel_rfl) (by kernel_rfl)
theorem tok55 : TIok Tryz.prog 55 t55 := ti_chk (by kernel_rfl) (by kernel_rfl) (by kernel_rfl) (by kernel_rfl) (by kernel_rfl) (by kernel_rfl) (by kernel_rfl) (by kernel_rfl) (by kernel_rfl) (by kernel_rfl)
theorem tok62 : TIok Tryz.prog 62 t62 := ti_chk (by kernel_rfl) (by kernel_rfl) (by kernel_rfl) (by kernel_rfl) (by kernel_rfl) (by kernel_rfl) (by kernel_rfl) (by kernel_rfl) (by kernel_rfl) (by kernel_rfl)
theorem tok66 : TIok Tryz.prog 66 t66 := ti_chk (by kernel_rfl) (by kernel_rfl) (by kernel_rfl) (by kernel_rfl) (by kernel_rfl) (by kernel_rfl) (by kernel_rfl) (by kernel_rfl) (by kernel_rfl) (by kernel_rfl)
theorem tok69 : TIok Tryz.prog 69 t69 := ti_chk (by kernel_rfl) (by kernel_rfl) (by kernel_rfl) (by kernel_rfl) (by kernel_rfl) (by kernel_rfl) (by kernel_rfl) (by kernel_rfl) (by kernel_rfl) (by kernel_rfl)
theorem tok70 : TIok Tryz.prog 70 t70 := ti_chk (by kernel_rfl) (by kernel_rfl) (by kernel_rfl) (by kernel_rfl) (by kernel_rfl) (by kernel_rfl) (by kernel_rfl) (by kernel_rfl) (by kernel_rfl) (by kernel_rfl)
theorem tok72 : TIok Tryz.prog 72 t72 := ti_chk (by kernel_rfl) (by kernel_rfl) (by kernel_rfl) (by kernel_rfl) (by kernel_rfl) (by kernel_rfl) (by kernel_rfl) (by kernel_rfl) (by kernel_rfl) (by kernel_rfl)
theorem tok79 : TIok Tryz.prog 79 t79 := ti_chk (by kernel_rfl) (by kernel_rfl) (by kernel_rfl) (by kernel_rfl) (by kernel_rfl) (by kernel_rfl) (by kernel_rfl) (by kernel_rfl) (by kernel_rfl) (by kernel_rfl)
theorem tok81 : TIok Tryz.prog 81 t81 := ti_chk (by kernel_rfl) (by kernel_rfl) (by kernel_rfl) (by kernel_rfl) (by kernel_rfl) (by kernel_rfl) (by kernel_rfl) (by kernel_rfl) (by kernel_rfl) (by kernel_rfl)
theorem tok84 : TIok Tryz.prog 84 t84 := ti_chk (by kernel_rfl) (by kernel_rfl) (by kernel_rfl) (by kernel_rfl) (by kernel_rfl) (by kernel_rfl) (by kernel_rfl) (by kernel_rfl) (by kernel_rfl) (by kernel_rfl)
theorem tok85 : TIok Tryz.prog 85 t85 := ti_chk (by kernel_rfl) (by kernel_rfl) (by kernel_rfl) (by kernel_rfl) (by kernel_rfl) (by kernel_rfl) (by kernel_rfl) (by kernel_rfl) (by kernel_rfl) (by kernel_rfl)
theorem tok93 : TIok Tryz.prog 93 t93 := ti_chk (by kernel_rfl) (by kernel_rfl) (by kernel_rfl) (by kernel_rfl) (by kernel_rfl) (by kernel_rfl) (by kernel_rfl) (by kernel_rfl) (by kernel_rfl) (by kernel_rfl)
theorem tok95 : TIok Tryz.prog 95 t95 := ti_chk (by kernel_rfl) (by kernel_rfl) (by kernel_rfl) (by kernel_rfl) (by kernel_rfl) (by kernel_rfl) (by kernel_rfl) (by kernel_rfl) (by kernel_rfl) (by kernel_rfl)
theorem tok97 : TIok Tryz.prog 97 t97 := ti_chk (by kernel_rfl) (by kernel_rfl) (by kernel_rfl) (by kernel_rfl) (by kernel_rfl) (by kernel_rfl) (by kernel_rfl) (by kernel_rfl) (by kernel_rfl) (by kernel_rfl)
theorem tok99 : TIok Tryz.prog 99 t99 := ti_chk (by kernel_rfl) (by kernel_rfl) (by kernel_rfl) (by kernel_rfl) (by kernel_rfl) (by kernel_rfl) (by kernel_rfl) (by kernel_rfl) (by kernel_rfl) (by kernel_rfl)
theorem tok100 : TIok Tryz.prog 100 t100 := ti_chk (by kernel_rfl) (by kernel_rfl) (by kernel_rfl) (by kernel_rfl) (by kernel_rfl) (by kernel_rfl) (by kernel_rfl) (by kernel_rfl) (by kernel_rfl) (by kernel_rfl)
theorem tok102 : TIok Tryz.prog 102 t102 := ti_chk (by kernel_rfl) (by kernel_rfl) (by kernel_rfl) (by kernel_rfl) (by kernel_rfl) (by kernel_rfl) (by kernel_rfl) (by kernel_rfl) (by kernel_rfl) (by kernel_rfl)
theorem tok104 : TIok Tryz.prog 104 t104 := ti_chk (by kernel_rfl) (by kernel_rfl) (by kernel_rfl) (by kernel_rfl) (by kernel_rfl) (by kernel_rfl) (by kernel_rfl) (by kernel_rfl) (by kernel_rfl) (by kernel_rfl)
theorem tok105 : TIok Tryz.prog 105 t105 := ti_chk (by kernel_rfl) (by kernel_rfl) (by kernel_rfl) (by kernel_rfl) (by kernel_rfl) (by kernel_rfl) (by kernel_rfl) (by kernel_rfl) (by kernel_rfl) (by kernel_rfl)
theorem tok107 : TIok Tryz.prog 107 t107 := ti_chk (by kernel_rfl) (by kernel_rfl) (by kernel_rfl) (by kernel_rfl) (by kernel_rfl) (by kernel_rfl) (by kernel_rfl) (by kernel_rfl) (by kernel_rfl) (by kernel_rfl)
theorem tok112 : TIok Tryz.prog 112 t112 := ti_chk (by kernel_rfl) (by kernel_rfl) (by kernel_rfl) (by kernel_rfl) (by kernel_rfl) (by kernel_rfl) (by kernel_rfl) (by kernel_rfl) (by kernel_rfl) (by kernel_rfl)
theorem tok116 : TIok Tryz.prog 116 t116 := ti_chk (by kernel_rfl) (by kernel_rfl) (by kernel_rfl) (by kernel_rfl) (by kernel_rfl) (by kernel_rfl) (by kernel_rfl) (by kernel_rfl) (by kernel_rfl) (by kernel_rfl)
theorem tok132 : TIok Tryz.prog 132 t132 := ti_chk (by kernel_rfl) (by kernel_rfl) (by kernel_rfl) (by kernel_rfl) (by kernel_rfl) (by kernel_rfl) (by kernel_rfl) (by kernel_rfl) (by kernel_rfl) (by kernel_rfl)
theorem tok136 : TIok Tryz.prog 136 t136 := ti_chk (by kernel_rfl) (by kernel_rfl) (by kernel_rfl) (by kernel_rfl) (by kernel_rfl) (by kernel_rfl) (by kernel_rfl) (by kernel_rfl) (by kernel_rfl) (by kernel_rfl)
theorem tok143 : TIok Tryz.prog 143 t143 := ti_chk (by kernel_rfl) (by kernel_rfl) (by kernel_rfl) (by kernel_rfl) (by kernel_rfl) (by kernel_rfl) (by kernel_rfl) (by kernel_rfl) (by kernel_rfl) (by kernel_rfl)
theorem tok157 : TIok Tryz.prog 157 t157 := ti_chk (by kernel_rfl) (by kernel_rfl) (by kernel_rfl) (by kernel_rfl) (by kernel_rfl) (by kernel_rfl) (by kernel_rfl) (by kernel_rfl) (by kernel_rfl) (by kernel_rfl)
theorem tok159 : TIok Tryz.prog 159 t159 := ti_chk (by kernel_rfl) (by kernel_rfl) (by kernel_rfl) (by kernel_rfl) (by kernel_rfl) (by kernel_rfl) (by kernel_rfl) (by kernel_rfl) (by kernel_rfl) (by kernel_rfl)
theorem tok162 : TIok Tryz.prog 162 t162 := ti_chk (by kernel_rfl) (by kernel_rfl) (by kernel_rfl) (by kernel_rfl) (by kernel_rfl) (by kernel_rfl) (by kernel_rfl) (by kernel_rfl) (by kernel_rfl) (by kernel_rfl)
theorem tok163 : TIok Tryz.prog 163 t163 := ti_chk (by kernel_rfl) (by kernel_rfl) (by kernel_rfl) (by kernel_rfl) (by kernel_rfl) (by kernel_rfl) (by kernel_rfl) (by kernel_rfl) (by kernel_rfl) (by kernel_rfl)
theorem tok164 : TIok Tryz.prog 164 t164 := ti_chk (by kernel_rfl) (by kernel_rfl) (by kernel_rfl) (by kernel_rfl) (by kernel_rfl) (by kernel_rfl) (by kernel_rfl) (by kernel_rfl) (by kernel_rfl) (by kernel_rfl)
theorem tok166 : TIok Tryz.prog 166 t166 := ti_chk (by kernel_rfl) (by kernel_rfl) (by kernel_rfl) (by kernel_rfl) (by kernel_rfl) (by kernel_rfl) (by kernel_rfl) (by kernel_rfl) (by kernel_rfl) (by kernel_rfl)
theorem tok168 : TIok Tryz.prog 168 t168 := ti_chk (by kernel_rfl) (by kernel_rfl) (by kernel_rfl) (by kernel_rfl) (by kernel_rfl) (by kernel_rfl) (by kernel_rfl) (by kernel_rfl) (by kernel_rfl) (by kernel_rfl)
theorem tok172 : TIok Tryz.prog 172 t172 := ti_chk (by kernel_rfl) (by kernel_rfl) (by kernel_rfl) (by kernel_rfl) (by kernel_rfl) (by kernel_rfl) (by kernel_rfl) (by kernel_rfl) (by kernel_rfl) (by kernel_rfl)
theorem tok173 : TIok Tryz.prog 173 t173 := ti_chk (by kernel_rfl) (by kernel_rfl) (by kernel_rfl) (by kernel_rfl) (by kernel_rfl) (by kernel_rfl) (by kernel_rfl) (by kernel_rfl) (by kernel_rfl) (by kernel_rfl)
theorem tok174 : TIok Tryz.prog 174 t174 := ti_chk (by kernel_rfl) (by kernel_rfl) (by kernel_rfl) (by kernel_rfl) (by kernel_rfl) (by kernel_rfl) (by kernel_rfl) (by kernel_rfl) (by kernel_rfl) (by kernel_rfl)
theorem tok176 : TIok Tryz.prog 176 t176 := ti_chk (by kernel_rfl) (by kernel_rfl) (by kernel_rfl) (by kernel_rfl) (by kernel_rfl) (by kernel_rfl) (by kernel_rfl) (by kernel_rfl) (by kernel_rfl) (by kernel_rfl)
theorem tok178 : TIok Tryz.prog 178 t178 := ti_chk (by kernel_rfl) (by kernel_rfl) (by kernel_rfl) (by kernel_rfl) (by kernel_rfl) (by kernel_rfl) (by kernel_rfl) (by kernel_rfl) (by kernel_rfl) (by kernel_rfl)
theorem tok180 : TIok Tryz.prog 180 t180 := ti_chk (by kernel_rfl) (by kernel_rfl) (by kernel_rfl) (by kernel_rfl) (by kernel_rfl) (by kernel_rfl) (by kernel_rfl) (by kernel_rfl) (by kernel_rfl) (by kernel_rfl)
theorem tok182 : TIok Tryz.prog 182 t182 := ti_chk (by kernel_rfl) (by kernel_rfl) (by kernel_rfl) (by kernel_rfl) (by kernel_rfl) (by kernel_rfl) (by kernel_rfl) (by kernel_rfl) (by kernel_rfl) (by kernel_rfl)
theorem tok187 : TIok Tryz.prog 187 t187 := ti_chk (by kernel_rfl) (by kernel_rfl) (by kernel_rfl) (by kernel_rfl) (by kernel_rfl) (by kernel_rfl) (by kernel_rfl) (by kernel_rfl) (by kernel_rfl) (by kernel_rfl)
theorem tok196 : TIok Tryz.prog 196 t196 := ti_chk (by kernel_rfl) (by kernel_rfl) (by kernel_rfl) (by kernel_rfl) (by kernel_rfl) (by kernel_rfl) (by kernel_rfl) (by kernel_rfl) (by kernel_rfl) (by kernel_rfl)
theorem tok197 : TIok Tryz.prog 197 t197 := ti_chk (by kernel_rfl) (by kernel_rfl) (by kernel_rfl) (by kernel_rfl) (by kernel_rfl) (by kernel_rfl) (by kernel_rfl) (by kernel_rfl) (by kernel_rfl) (by kernel_rfl)
theorem tok199 : TIok Tryz.prog 199 t199 := ti_chk (by kernel_rfl) (by kernel_rfl) (by kernel_rfl) (by kernel_rfl) (by kernel_rfl) (by kernel_rfl) (by kernel_rfl) (by kernel_rfl) (by kernel_rfl) (by kernel_rfl)
theorem tok200 : TIok Tryz.prog 200 t200 := ti_chk (by kernel_rfl) (by kernel_rfl) (by kernel_rfl) (by kernel_rfl) (by kernel_rfl) (by kernel_rfl) (by kernel_rfl) (by kernel_rfl) (by kernel_rfl) (by kernel_rfl)
theorem tok218 : TIok Tryz.prog 218 t218 := ti_chk (by kernel_rfl) (by kernel_rfl) (by kernel_rfl) (by kernel_rfl) (by kernel_rfl) (by kernel_rfl) (by kernel_rfl) (by kernel_rfl) (by kernel_rfl) (by kernel_rfl)
theorem tok231 : TIok Tryz.prog 231 t231 := ti_chk (by kernel_rfl) (by kernel_rfl) (by kernel_rfl) (by kernel_rfl) (by kernel_rfl) (by kernel_rfl) (by kernel_rfl) (by kernel_rfl) (by kernel_rfl) (by kernel_rfl)
theorem fok3 : FIok Tryz.prog 3 (fiOfFn Tryz.f3) := fi_ok Tryz.func3 (by kernel_rfl) (by kernel_rfl)
theorem fok4 : FIok Tryz.prog 4 (fiOfFn Tryz.f4) := fi_ok Tryz.func4 (by kernel_rfl) (by kernel_rfl)
theorem fok5 : FIok Tryz.prog 5 (fiOfFn Tryz.f5) := fi_ok Tryz.func5 (by kernel_rfl) (by kernel_rfl)
theorem fok6 : FIok Tryz.prog 6 (fiOfFn Tryz.f6) := fi_ok Tryz.func6 (by kernel_rfl) (by kernel_rfl)
theorem fok7 : FIok Tryz.prog 7 (fiOfFn Tryz.f7) := fi_ok Tryz.func7 (by kernel_rfl) (by kernel_rfl)
theorem fok8 : FIok Tryz.prog 8 (fiOfFn Tryz.f8) := fi_ok Tryz.func8 (by kernel_rfl) (by kernel_rfl)
theorem fok9 : FIok Tryz.prog 9 (fiOfFn Tryz.f9) := fi_ok Tryz.func9 (by kernel_rfl) (by kernel_rfl)
theorem fok10 : FIok Tryz.prog 10 (fiOfFn Tryz.f10) := fi_ok Tryz.func10 (by kernel_rfl) (by kernel_rfl)
theorem fok11 : FIok Tryz.prog 11 (fiOfFn Tryz.f11) := fi_ok Tryz.func11 (by kernel_rfl) (by kernel_rfl)
theorem fok12 : FIok Tryz.prog 12 (fiOfFn Tryz.f12) := fi_ok Tryz.func12 (by kernel_rfl) (by kernel_rfl)
theorem fok13 : FIok Tryz.prog 13 (fiOfFn Tryz.f13) := fi_ok Tryz.func13 (by kernel_rfl) (by kernel_rfl)
theorem fok14 : FIok Tryz.prog 14 (fiOfFn Tryz.f14) := fi_ok Tryz.func14 (by kernel_rfl) (by kernel_rfl)
theorem fok15 : FIok Tryz.prog 15 (fiOfFn Tryz.f15) := fi_ok Tryz.func15 (by kernel_rfl) (by kernel_rfl)
theorem fok16 : FIok Tryz.prog 16 (fiOfFn Tryz.f16) := fi_ok Tryz.func16 (by kernel_rfl) (by kernel_rfl)
theorem fok17 : FIok Tryz.prog 17 (fiOfFn Tryz.f17) := fi_ok Tryz.func17 (by kernel_rfl) (by kernel_rfl)
theorem fok18 : FIok Tryz.prog 18 (fiOfFn Tryz.f18) := fi_ok Tryz.func18 (by kernel_rfl) (by kernel_rfl)
theorem fok19 : FIok Tryz.prog 19 (fiOfFn Tryz.f19) := fi_ok Tryz.func19 (by kernel_rfl) (by kernel_rfl)
theorem fok20 : FIok Tryz.prog 20 (fiOfFn Tryz.f20) := fi_ok Tryz.func20 (by kernel_rfl) (by kernel_rfl)
theorem fok21 : FIok Tryz.prog 21 (fiOfFn Tryz.f21) := fi_ok Tryz.func21 (by kernel_rfl) (by kernel_rfl)
theorem fok22 : FIok Tryz.prog 22 (fiOfFn Tryz.f22) := fi_ok Tryz.func22 (by kernel_rfl) (by kernel_rfl)
theorem fok23 : FIok Tryz.prog 23 (fiOfFn Tryz.f23) := fi_ok Tryz.func23 (by kernel_rfl) (by kernel_rfl)
theorem fok24 : FIok Tryz.prog 24 (fiOfFn Tryz.f24) := fi_ok Tryz.func24 (by kernel_rfl) (by kernel_rfl)
theorem fok27 : FIok Tryz.prog 27 (fiOfFn Tryz.f27) := fi_ok Tryz.func27 (by kernel_rfl) (by kernel_rfl)
theorem fok32 : FIok Tryz.prog 32 (fiOfFn Tryz.f32) := fi_ok Tryz.func32 (by kernel_rfl) (by kernel_rfl)
theorem fok34 : FIok Tryz.prog 34 (fiOfFn Tryz.f34) := fi_ok Tryz.func34 (by kernel_rfl) (by kernel_rfl)
theorem fok35 : FIok Tryz.prog 35 (fiOfFn Tryz.f35) := fi_ok Tryz.func35 (by kernel_rfl) (by kernel_rfl)
theorem fok36 : FIok Tryz.prog 36 (fiOfFn Tryz.f36) := fi_ok Tryz.func36 (by kernel_rfl) (by kernel_rfl)
theorem fok37 : FIok Tryz.prog 37 (fiOfFn Tryz.f37) := fi_ok Tryz.func37 (by kernel_rfl) (by kernel_rfl)
theorem fok38 : FIok Tryz.prog 38 (fiOfFn Tryz.f38) := fi_ok Tryz.func38 (by kernel_rfl) (by kernel_rfl)
theorem fok39 : FIok Tryz.prog 39 (fiOfFn Tryz.f39) := fi_ok Tryz.func39 (by kernel_rfl) (by kernel_rfl)
theorem fok40 : FIok Tryz.prog 40 (fiOfFn Tryz.f40) := fi_ok Tryz.func40 (by kernel_rfl) (by kernel_rfl)
theorem fok41 : FIok Tryz.prog 41 (fiOfFn Tryz.f41) := fi_ok Tryz.func41 (by kernel_rfl) (by kernel_rfl)
theorem fok42 : FIok Tryz.prog 42 (fiOfFn Tryz.f42) := fi_ok Tryz.func42 (by kernel_rfl) (by kernel_rfl)
theorem fok47 : FIok Tryz.prog 47 (fiOfFn Tryz.f47) := fi_ok Tryz.func47 (by kernel_rfl) (by kernel_rfl)
theorem fok48 : FIok Tryz.prog 48 (fiOfFn Tryz.f48) := fi_ok Tryz.func48 (by kernel_rfl) (by kernel_rfl)
theorem fok54 : FIok Tryz.prog 54 (fiOfFn Tryz.f54) := fi_ok Tryz.func54 (by kernel_rfl) (by kernel_rfl)
theorem fok55 : FIok Tryz.prog 55 (fiOfFn Tryz.f55) := fi_ok Tryz.func55 (by kernel_rfl) (by kernel_rfl)
theorem fok56 : FIok Tryz.prog 56 (fiOfFn Tryz.f56) := fi_ok Tryz.func56 (by kernel_rfl) (by kernel_rfl)
theorem fok57 : FIok Tryz.prog 57 (fiOfFn Tryz.f57) := fi_ok Tryz.func57 (by kernel_rfl) (by kernel_rfl)
theorem fok58 : FIok Tryz.prog 58 (fiOfFn Tryz.f58) := fi_ok Tryz.func58 (by kernel_rfl) (by kernel_rfl)
theorem fok59 : FIok Tryz.prog 59 (fiOfFn Tryz.f59) := fi_ok Tryz.func59 (by kernel_rfl) (by kernel_rfl)
theorem fok60 : FIok Tryz.prog 60 (fiOfFn Tryz.f60) := fi_ok Tryz.func60 (by kernel_rfl) (by kernel_rfl)
theorem fok61 : FIok Tryz.prog 61 (fiOfFn Tryz.f61) := fi_ok Tryz.func61 (by kernel_rfl) (by kernel_rfl)
theorem fok62 : FIok Tryz.prog 62 (fiOfFn Tryz.f62) := fi_ok Tryz.func62 (by kernel_rfl) (by kernel_rfl)
theorem fok63 : FIok Tryz.prog 63 (fiOfFn Tryz.f63) := fi_ok Tryz.func63 (by kernel_rfl) (by kernel_rfl)
theorem fok64 : FIok Tryz.prog 64 (fiOfFn Tryz.f64) := fi_ok Tryz.func64 (by kernel_rfl) (by kernel_rfl)
theorem fok65 : FIok Tryz.prog 65 (fiOfFn Tryz.f65) := fi_ok Tryz.func65 (by kernel_rfl) (by kernel_rfl)
theorem fok67 : FIok Tryz.prog 67 (fiOfFn Tryz.f67) := fi_ok Tryz.func67 (by kernel_rfl) (by kernel_rfl)
theorem fok76 : FIok Tryz.prog 76 (fiOfFn Tryz.f76) := fi_ok Tryz.func76 (by kernel_rfl) (by kernel_rfl)
theorem fok77 : FIok Tryz.prog 77 (fiOfFn Tryz.f77) := fi_ok Tryz.func77 (by kernel_rfl) (by kernel_rfl)
theorem fok78 : FIok Tryz.prog 78 (fiOfFn Tryz.f78) := fi_ok Tryz.func78 (by kernel_rfl) (by kernel_rfl)
theorem fok79 : FIok Tryz.prog 79 (fiOfFn Tryz.f79) := fi_ok Tryz.func79 (by kernel_rfl) (by kernel_rfl)
theorem fok80 : FIok Tryz.prog 80 (fiOfFn Tryz.f80) := fi_ok Tryz.func80 (by kernel_rfl) (by kernel_rfl)
theorem fok81 : FIok Tryz.prog 81 (fiOfFn Tryz.f81) := fi_ok Tryz.func81 (by kernel_rfl) (by kernel_rfl)
theorem fok82 : FIok Tryz.prog 82 (fiOfFn Tryz.f82) := fi_ok Tryz.func82 (by kernel_rfl) (by kernel_rfl)
theorem fok83 : FIok Tryz.prog 83 (fiOfFn Tryz.f83) := fi_ok Tryz.func83 (by kernel_rfl) (by kernel_rfl)
theorem fok84 : FIok Tryz.prog 84 (fiOfFn Tryz.f84) := fi_ok Tryz.func84 (by kernel_rfl) (by kernel_rfl)
theorem fok85 : FIok Tryz.prog 85 (fiOfFn Tryz.f85) := fi_ok Tryz.func85 (by kernel_rfl) (by kernel_rfl)
theorem fok86 : FIok Tryz.prog 86 (fiOfFn Tryz.f86) := fi_ok Tryz.func86 (by kernel_rfl) (by kernel_rfl)
theorem fok87 : FIok Tryz.prog 87 (fiOfFn Tryz.f87) := fi_ok Tryz.func87 (by kernel_rfl) (by kernel_rfl)
theorem fok89 : FIok Tryz.prog 89 (fiOfFn Tryz.f89) := fi_ok Tryz.func89 (by kernel_rfl) (by kernel_rfl)
theorem fok96 : FIok Tryz.prog 96 (fiOfFn Tryz.f96) := fi_ok Tryz.func96 (by kernel_rfl) (by kernel_rfl)
theorem fok97 : FIok Tryz.prog 97 (fiOfFn Tryz.f97) := fi_ok Tryz.func97 (by kernel_rfl) (by kernel_rfl)
theorem fok98 : FIok Tryz.prog 98 (fiOfFn Tryz.f98) := fi_ok Tryz.func98 (by kernel_rfl) (by kernel_rfl)
theorem fok99 : FIok Tryz.prog 99 (fiOfFn Tryz.f99) := fi_ok Tryz.func99 (by kernel_rfl) (by kernel_rfl)
theorem fok100 : FIok Tryz.prog 100 (fiOfFn Tryz.f100) := fi_ok Tryz.func100 (by kernel_rfl) (by kernel_rfl)
theorem fok106 : FIok Tryz.prog 106 (fiOfFn Tryz.f106) := fi_ok Tryz.func106 (by kernel_rfl) (by kernel_rfl)
theorem fok107 : FIok Tryz.prog 107 (fiOfFn Tryz.f107) := fi_ok Tryz.func107 (by kernel_rfl) (by kernel_rfl)
theorem fok108 : FIok Tryz.prog 108 (fiOfFn Tryz.f108) := fi_ok Tryz.func108 (by kernel_rfl) (by kernel_rfl)
theorem fok109 : FIok Tryz.prog 109 (fiOfFn Tryz.f109) := fi_ok Tryz.func109 (by kernel_rfl) (by kernel_rfl)
theorem fok113 : FIok Tryz.prog 113 (fiOfFn Tryz.f113) := fi_ok Tryz.func113 (by kernel_rfl) (by kernel_rfl)
theorem fok114 : FIok Tryz.prog 114 (fiOfFn Tryz.f114) := fi_ok Tryz.func114 (by kernel_rfl) (by kernel_rfl)
theorem fok115 : FIok Tryz.prog 115 (fiOfFn Tryz.f115) := fi_ok Tryz.func115 (by kernel_rfl) (by kernel_rfl)
theorem fok131 : FIok Tryz.prog 131 (fiOfFn Tryz.f131) := fi_ok Tryz.func131 (by kernel_rfl) (by kernel_rfl)
theorem fok141 : FIok Tryz.prog 141 (fiOfFn Tryz.f141) := fi_ok Tryz.func141 (by kernel_rfl) (by kernel_rfl)
theorem fok149 : FIok Tryz.prog 149 (fiOfFn Tryz.f149) := fi_ok Tryz.func149 (by kernel_rfl) (by kernel_rfl)
theorem fok158 : FIok Tryz.prog 158 (fiOfFn Tryz.f158) := fi_ok Tryz.func158 (by kernel_rfl) (by kernel_rfl)
theorem tys : tyT.All (fun t ti => TIok Tryz.prog t ti) :=
  ⟨Tr.no_get, ⟨Tr.no_get, ⟨Tr.none_get tok3, ⟨Tr.no_get, ⟨Tr.no_get, ⟨Tr.none_get tok31, trivial, ⟨Tr.none_get tok95, ⟨Tr.none_get tok159, trivial, trivial⟩, trivial⟩⟩, ⟨Tr.no_get, ⟨Tr.none_get tok79, ⟨Tr.none_get tok143, trivial, trivial⟩, trivial⟩, trivial⟩⟩, ⟨Tr.no_get, ⟨Tr.no_get, ⟨Tr.no_get, trivial, ⟨Tr.none_get tok199, trivial, trivial⟩⟩, ⟨Tr.no_get, trivial, ⟨Tr.none_get tok231, trivial, trivial⟩⟩⟩, ⟨Tr.none_get tok55, trivial, trivial⟩⟩⟩, ⟨Tr.no_get, ⟨Tr.no_get, ⟨Tr.none_get tok35, trivial, ⟨Tr.none_get tok99, ⟨Tr.none_get tok163, trivial, trivial⟩, trivial⟩⟩, trivial⟩, ⟨Tr.none_get tok27, ⟨Tr.none_get tok43, trivial, ⟨Tr.none_get tok107, trivial, trivial⟩⟩, ⟨Tr.no_get, trivial, ⟨Tr.no_get, ⟨Tr.none_get tok187, trivial, trivial⟩, trivial⟩⟩⟩⟩⟩, ⟨Tr.none_get tok5, ⟨Tr.none_get tok9, ⟨Tr.no_get, ⟨Tr.none_get tok33, trivial, ⟨Tr.none_get tok97, trivial, trivial⟩⟩, ⟨Tr.no_get, ⟨Tr.none_get tok81, trivial, trivial⟩, trivial⟩⟩, ⟨Tr.none_get tok25, ⟨Tr.no_get, trivial, ⟨Tr.none_get tok105, trivial, trivial⟩⟩, trivial⟩⟩, ⟨Tr.no_get, ⟨Tr.no_get, ⟨Tr.none_get tok37, ⟨Tr.none_get tok69, trivial, ⟨Tr.none_get tok197, trivial, trivial⟩⟩, trivial⟩, ⟨Tr.no_get, ⟨Tr.none_get tok85, trivial, trivial⟩, trivial⟩⟩, ⟨Tr.none_get tok29, ⟨Tr.no_get, trivial, ⟨Tr.no_get, ⟨Tr.none_get tok173, trivial, trivial⟩, trivial⟩⟩, ⟨Tr.no_get, ⟨Tr.none_get tok93, ⟨Tr.none_get tok157, trivial, trivial⟩, trivial⟩, trivial⟩⟩⟩⟩⟩, ⟨Tr.none_get tok2, ⟨Tr.none_get tok4, ⟨Tr.no_get, ⟨Tr.no_get, ⟨Tr.none_get tok32, trivial, trivial⟩, ⟨Tr.none_get tok48, trivial, ⟨Tr.none_get tok112, ⟨Tr.none_get tok176, trivial, trivial⟩, trivial⟩⟩⟩, ⟨Tr.none_get tok24, ⟨Tr.no_get, ⟨Tr.none_get tok72, ⟨Tr.none_get tok136, trivial, trivial⟩, ⟨Tr.none_get tok200, trivial, trivial⟩⟩, ⟨Tr.none_get tok104, ⟨Tr.none_get tok168, trivial, trivial⟩, trivial⟩⟩, trivial⟩⟩, ⟨Tr.no_get, ⟨Tr.none_get tok20, ⟨Tr.none_get tok36, ⟨Tr.no_get, ⟨Tr.none_get tok132, trivial, trivial⟩, ⟨Tr.none_get tok196, trivial, trivial⟩⟩, ⟨Tr.none_get tok100, ⟨Tr.none_get tok164, trivial, trivial⟩, trivial⟩⟩, ⟨Tr.none_get tok52, ⟨Tr.none_get tok84, trivial, trivial⟩, ⟨Tr.none_get tok116, ⟨Tr.none_get tok180, trivial, trivial⟩, trivial⟩⟩⟩, ⟨Tr.no_get, ⟨Tr.none_get tok44, trivial, ⟨Tr.no_get, ⟨Tr.none_get tok172, trivial, trivial⟩, trivial⟩⟩, trivial⟩⟩⟩, ⟨Tr.no_get, ⟨Tr.no_get, ⟨Tr.no_get, ⟨Tr.no_get, ⟨Tr.none_get tok66, trivial, trivial⟩, ⟨Tr.no_get, ⟨Tr.none_get tok162, trivial, trivial⟩, trivial⟩⟩, ⟨Tr.none_get tok50, trivial, ⟨Tr.no_get, ⟨Tr.none_get tok178, trivial, trivial⟩, trivial⟩⟩⟩, ⟨Tr.none_get tok26, ⟨Tr.none_get tok42, trivial, trivial⟩, ⟨Tr.no_get, ⟨Tr.no_get, trivial, ⟨Tr.none_get tok218, trivial, trivial⟩⟩, trivial⟩⟩⟩, ⟨Tr.no_get, ⟨Tr.none_get tok22, ⟨Tr.no_get, ⟨Tr.none_get tok70, trivial, trivial⟩, ⟨Tr.none_get tok102, ⟨Tr.none_get tok166, trivial, trivial⟩, trivial⟩⟩, ⟨Tr.none_get tok54, trivial, ⟨Tr.no_get, ⟨Tr.none_get tok182, trivial, trivial⟩, trivial⟩⟩⟩, ⟨Tr.no_get, ⟨Tr.none_get tok46, trivial, ⟨Tr.no_get, ⟨Tr.none_get tok174, trivial, trivial⟩, trivial⟩⟩, ⟨Tr.none_get tok62, trivial, trivial⟩⟩⟩⟩⟩⟩
theorem fns : fnT.All (fun f fi => FIok Tryz.prog f fi) :=
  ⟨Tr.no_get, ⟨Tr.no_get, ⟨Tr.none_get fok3, ⟨Tr.none_get fok7, ⟨Tr.none_get fok15, ⟨Tr.no_get, ⟨Tr.none_get fok63, trivial, trivial⟩, trivial⟩, ⟨Tr.none_get fok47, ⟨Tr.none_get fok79, trivial, trivial⟩, trivial⟩⟩, ⟨Tr.none_get fok23, ⟨Tr.none_get fok39, trivial, trivial⟩, ⟨Tr.none_get fok55, ⟨Tr.none_get fok87, trivial, trivial⟩, trivial⟩⟩⟩, ⟨Tr.none_get fok11, ⟨Tr.none_get fok19, ⟨Tr.none_get fok35, ⟨Tr.none_get fok67, ⟨Tr.none_get fok131, trivial, trivial⟩, trivial⟩, ⟨Tr.none_get fok99, trivial, trivial⟩⟩, ⟨Tr.no_get, ⟨Tr.none_get fok83, trivial, trivial⟩, ⟨Tr.none_get fok115, trivial, trivial⟩⟩⟩, ⟨Tr.none_get fok27, ⟨Tr.no_get, trivial, ⟨Tr.none_get fok107, trivial, trivial⟩⟩, ⟨Tr.none_get fok59, trivial, trivial⟩⟩⟩⟩, ⟨Tr.none_get fok5, ⟨Tr.none_get fok9, ⟨Tr.none_get fok17, ⟨Tr.no_get, ⟨Tr.none_get fok65, trivial, trivial⟩, ⟨Tr.none_get fok97, trivial, trivial⟩⟩, ⟨Tr.no_get, ⟨Tr.none_get fok81, trivial, trivial⟩, ⟨Tr.none_get fok113, trivial, trivial⟩⟩⟩, ⟨Tr.no_get, ⟨Tr.none_get fok41, trivial, trivial⟩, ⟨Tr.none_get fok57, ⟨Tr.none_get fok89, trivial, trivial⟩, trivial⟩⟩⟩, ⟨Tr.none_get fok13, ⟨Tr.none_get fok21, ⟨Tr.none_get fok37, trivial, trivial⟩, ⟨Tr.no_get, ⟨Tr.none_get fok85, ⟨Tr.none_get fok149, trivial, trivial⟩, trivial⟩, trivial⟩⟩, ⟨Tr.no_get, ⟨Tr.no_get, ⟨Tr.none_get fok77, ⟨Tr.none_get fok141, trivial, trivial⟩, trivial⟩, ⟨Tr.none_get fok109, trivial, trivial⟩⟩, ⟨Tr.none_get fok61, trivial, trivial⟩⟩⟩⟩⟩, ⟨Tr.no_get, ⟨Tr.none_get fok4, ⟨Tr.none_get fok8, ⟨Tr.none_get fok16, ⟨Tr.none_get fok32, ⟨Tr.none_get fok64, trivial, trivial⟩, ⟨Tr.none_get fok96, trivial, trivial⟩⟩, ⟨Tr.none_get fok48, ⟨Tr.none_get fok80, trivial, trivial⟩, trivial⟩⟩, ⟨Tr.none_get fok24, ⟨Tr.none_get fok40, trivial, trivial⟩, ⟨Tr.none_get fok56, trivial, trivial⟩⟩⟩, ⟨Tr.none_get fok12, ⟨Tr.none_get fok20, ⟨Tr.none_get fok36, trivial, ⟨Tr.none_get fok100, trivial, trivial⟩⟩, ⟨Tr.no_get, ⟨Tr.none_get fok84, trivial, trivial⟩, trivial⟩⟩, ⟨Tr.no_get, ⟨Tr.no_get, ⟨Tr.none_get fok76, trivial, trivial⟩, ⟨Tr.none_get fok108, trivial, trivial⟩⟩, ⟨Tr.none_get fok60, trivial, trivial⟩⟩⟩⟩, ⟨Tr.none_get fok6, ⟨Tr.none_get fok10, ⟨Tr.none_get fok18, ⟨Tr.none_get fok34, trivial, ⟨Tr.none_get fok98, trivial, trivial⟩⟩, ⟨Tr.no_get, ⟨Tr.none_get fok82, trivial, trivial⟩, ⟨Tr.none_get fok114, trivial, trivial⟩⟩⟩, ⟨Tr.no_get, ⟨Tr.none_get fok42, trivial, ⟨Tr.none_get fok106, trivial, trivial⟩⟩, ⟨Tr.none_get fok58, trivial, trivial⟩⟩⟩, ⟨Tr.none_get fok14, ⟨Tr.none_get fok22, ⟨Tr.none_get fok38, trivial, trivial⟩, ⟨Tr.none_get fok54, ⟨Tr.none_get fok86, trivial, trivial⟩, trivial⟩⟩, ⟨Tr.no_get, ⟨Tr.no_get, ⟨Tr.none_get fok78, trivial, trivial⟩, trivial⟩, ⟨Tr.none_get fok62, ⟨Tr.no_get, ⟨Tr.none_get fok158, trivial, trivial⟩, trivial⟩, trivial⟩⟩⟩⟩⟩⟩
theorem E_ok : EnvOk E Tryz.prog := ⟨fun t ti h => Tr.all_get _ _ tys t ti h, fun f fi h => Tr.all_get _ _ fns f fi h, fun _ => trivial, by kernel_rfl⟩
end Go.Proofs.YtncnellpjeebfaaGreatDoor

