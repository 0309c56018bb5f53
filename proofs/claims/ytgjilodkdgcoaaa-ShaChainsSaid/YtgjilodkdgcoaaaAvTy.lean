/- The facts on the types of the program that the walks by abstract data ask for. (Printed by a program.) -/
import Derived.Test.YtgjilodkdgcoaaaAvTac4
namespace Go.Proofs.Ytgjilodkdgcoaaa
open Go.RowKit
theorem row_2 : isRowT Try.prog 2 = some false := by kernel_rfl
theorem sz_2 : szT Try.prog 2 = some 1 := by kernel_rfl
theorem al_2 (m : Mem) : evAlloc Try.prog m 2 = some (.c (.ptr m.length 0), m ++ [.row true (.ai [0])]) := by kernel_rfl
theorem rep_2 (n : Nat) : repArr Try.prog 2 n = some (.ai (zeri n)) := by kernel_rfl
theorem el_2 : elemOk Try.prog 2 = some (1, 8) := by kernel_rfl
theorem row_3 : isRowT Try.prog 3 = some false := by kernel_rfl
theorem sz_3 : szT Try.prog 3 = some 1 := by kernel_rfl
theorem al_3 (m : Mem) : evAlloc Try.prog m 3 = some (.c (.ptr m.length 0), m ++ [.row true (.ai [0])]) := by kernel_rfl
theorem rep_3 (n : Nat) : repArr Try.prog 3 n = some (.ai (zeri n)) := by kernel_rfl
theorem el_3 : elemOk Try.prog 3 = some (1, 8) := by kernel_rfl
theorem row_4 : isRowT Try.prog 4 = some false := by kernel_rfl
theorem sz_4 : szT Try.prog 4 = some 1 := by kernel_rfl
theorem al_4 (m : Mem) : evAlloc Try.prog m 4 = some (.c (.ptr m.length 0), m ++ [.row true (.ac [.val (.bool false)])]) := by kernel_rfl
theorem el_4 : elemOk Try.prog 4 = some (1, 1) := by kernel_rfl
theorem row_5 : isRowT Try.prog 5 = some false := by kernel_rfl
theorem sz_5 : szT Try.prog 5 = some 1 := by kernel_rfl
theorem al_5 (m : Mem) : evAlloc Try.prog m 5 = some (.c (.ptr m.length 0), m ++ [.row true (.a8 [0#8])]) := by kernel_rfl
theorem rep_5 (n : Nat) : repArr Try.prog 5 n = some (.a8 (zer8 n)) := by kernel_rfl
theorem el_5 : elemOk Try.prog 5 = some (1, 1) := by kernel_rfl
theorem row_7 : isRowT Try.prog 7 = some true := by kernel_rfl
theorem sz_7 : szT Try.prog 7 = some 4 := by kernel_rfl
theorem al_7 (m : Mem) : evAlloc Try.prog m 7 = some (.c (.ptr m.length 0), m ++ [.row true (.ac [.val (.int .i64 0), .val (.int .i64 0), .val (.bool false), .val (.int .u8 0)])]) := by kernel_rfl
theorem el_7 : elemOk Try.prog 7 = some (4, 24) := by kernel_rfl
theorem row_9 : isRowT Try.prog 9 = some false := by kernel_rfl
theorem sz_9 : szT Try.prog 9 = some 1 := by kernel_rfl
theorem al_9 (m : Mem) : evAlloc Try.prog m 9 = some (.c (.ptr m.length 0), m ++ [.row true (.ac [.val (.string ByteArray.empty)])]) := by kernel_rfl
theorem el_9 : elemOk Try.prog 9 = some (1, 16) := by kernel_rfl
theorem row_12 : isRowT Try.prog 12 = some false := by kernel_rfl
theorem sz_12 : szT Try.prog 12 = some 1 := by kernel_rfl
theorem al_12 (m : Mem) : evAlloc Try.prog m 12 = some (.c (.ptr m.length 0), m ++ [.row true (.a64 [0#64])]) := by kernel_rfl
theorem rep_12 (n : Nat) : repArr Try.prog 12 n = some (.a64 (zer64 n)) := by kernel_rfl
theorem el_12 : elemOk Try.prog 12 = some (1, 8) := by kernel_rfl
theorem row_13 : isRowT Try.prog 13 = some true := by kernel_rfl
theorem sz_13 : szT Try.prog 13 = some 2 := by kernel_rfl
theorem al_13 (m : Mem) : evAlloc Try.prog m 13 = some (.c (.ptr m.length 0), m ++ [.row true (.ac [.val (.string ByteArray.empty), .val (.int .u64 0)])]) := by kernel_rfl
theorem el_13 : elemOk Try.prog 13 = some (2, 24) := by kernel_rfl
theorem row_15 : isRowT Try.prog 15 = some false := by kernel_rfl
theorem sz_15 : szT Try.prog 15 = some 1 := by kernel_rfl
theorem row_16 : isRowT Try.prog 16 = some false := by kernel_rfl
theorem sz_16 : szT Try.prog 16 = some 1 := by kernel_rfl
theorem row_18 : isRowT Try.prog 18 = some true := by kernel_rfl
theorem sz_18 : szT Try.prog 18 = some 1 := by kernel_rfl
theorem el_18 : elemOk Try.prog 18 = some (1, 8) := by kernel_rfl
theorem row_19 : isRowT Try.prog 19 = some true := by kernel_rfl
theorem sz_19 : szT Try.prog 19 = some 1 := by kernel_rfl
theorem el_19 : elemOk Try.prog 19 = some (1, 8) := by kernel_rfl
theorem row_21 : isRowT Try.prog 21 = some false := by kernel_rfl
theorem sz_21 : szT Try.prog 21 = some 1 := by kernel_rfl
theorem al_21 (m : Mem) : evAlloc Try.prog m 21 = some (.c (.ptr m.length 0), m ++ [.row true (.ac [.val (.int .i32 0)])]) := by kernel_rfl
theorem el_21 : elemOk Try.prog 21 = some (1, 4) := by kernel_rfl
theorem row_22 : isRowT Try.prog 22 = some false := by kernel_rfl
theorem sz_22 : szT Try.prog 22 = some 1 := by kernel_rfl
theorem al_22 (m : Mem) : evAlloc Try.prog m 22 = some (.c (.ptr m.length 0), m ++ [.row true (.ac [.nsl])]) := by kernel_rfl
theorem el_22 : elemOk Try.prog 22 = some (1, 24) := by kernel_rfl
theorem row_24 : isRowT Try.prog 24 = some true := by kernel_rfl
theorem sz_24 : szT Try.prog 24 = some 32 := by kernel_rfl
theorem al_24 (m : Mem) : evAlloc Try.prog m 24 = some (.c (.ptr m.length 0), m ++ [.row true (.a8 (zer8 32))]) := by kernel_rfl
theorem zc_24 : (Try.prog.info? 24).bind (fun i => i.zero.map (·.cells.size)) = some 32 := by kernel_rfl
theorem za_24 : (Try.prog.info? 24).bind (fun i => i.zero.map (fun z => absArr z.cells.toList)) = some (.a8 (zer8 32)) := by kernel_rfl
theorem el_24 : elemOk Try.prog 24 = some (32, 32) := by kernel_rfl
theorem row_26 : isRowT Try.prog 26 = some true := by kernel_rfl
theorem sz_26 : szT Try.prog 26 = some 64 := by kernel_rfl
theorem al_26 (m : Mem) : evAlloc Try.prog m 26 = some (.c (.ptr m.length 0), m ++ [.row true (.a8 (zer8 64))]) := by kernel_rfl
theorem zc_26 : (Try.prog.info? 26).bind (fun i => i.zero.map (·.cells.size)) = some 64 := by kernel_rfl
theorem za_26 : (Try.prog.info? 26).bind (fun i => i.zero.map (fun z => absArr z.cells.toList)) = some (.a8 (zer8 64)) := by kernel_rfl
theorem el_26 : elemOk Try.prog 26 = some (64, 64) := by kernel_rfl
theorem row_34 : isRowT Try.prog 34 = some false := by kernel_rfl
theorem sz_34 : szT Try.prog 34 = some 1 := by kernel_rfl
theorem al_34 (m : Mem) : evAlloc Try.prog m 34 = some (.c (.ptr m.length 0), m ++ [.row true (.a32 [0#32])]) := by kernel_rfl
theorem rep_34 (n : Nat) : repArr Try.prog 34 n = some (.a32 (zer32 n)) := by kernel_rfl
theorem el_34 : elemOk Try.prog 34 = some (1, 4) := by kernel_rfl
theorem row_35 : isRowT Try.prog 35 = some true := by kernel_rfl
theorem sz_35 : szT Try.prog 35 = some 8 := by kernel_rfl
theorem al_35 (m : Mem) : evAlloc Try.prog m 35 = some (.c (.ptr m.length 0), m ++ [.row true (.a32 (zer32 8))]) := by kernel_rfl
theorem zc_35 : (Try.prog.info? 35).bind (fun i => i.zero.map (·.cells.size)) = some 8 := by kernel_rfl
theorem za_35 : (Try.prog.info? 35).bind (fun i => i.zero.map (fun z => absArr z.cells.toList)) = some (.a32 (zer32 8)) := by kernel_rfl
theorem el_35 : elemOk Try.prog 35 = some (8, 32) := by kernel_rfl
theorem row_36 : isRowT Try.prog 36 = some false := by kernel_rfl
theorem sz_36 : szT Try.prog 36 = some 1 := by kernel_rfl
theorem al_36 (m : Mem) : evAlloc Try.prog m 36 = some (.c (.ptr m.length 0), m ++ [.row true (.ac [.nsl])]) := by kernel_rfl
theorem el_36 : elemOk Try.prog 36 = some (1, 24) := by kernel_rfl
theorem row_39 : isRowT Try.prog 39 = some true := by kernel_rfl
theorem sz_39 : szT Try.prog 39 = some 64 := by kernel_rfl
theorem al_39 (m : Mem) : evAlloc Try.prog m 39 = some (.c (.ptr m.length 0), m ++ [.row true (.a32 (zer32 64))]) := by kernel_rfl
theorem zc_39 : (Try.prog.info? 39).bind (fun i => i.zero.map (·.cells.size)) = some 64 := by kernel_rfl
theorem za_39 : (Try.prog.info? 39).bind (fun i => i.zero.map (fun z => absArr z.cells.toList)) = some (.a32 (zer32 64)) := by kernel_rfl
theorem el_39 : elemOk Try.prog 39 = some (64, 256) := by kernel_rfl
theorem row_40 : isRowT Try.prog 40 = some false := by kernel_rfl
theorem sz_40 : szT Try.prog 40 = some 1 := by kernel_rfl
theorem al_40 (m : Mem) : evAlloc Try.prog m 40 = some (.c (.ptr m.length 0), m ++ [.row true (.a64 [0#64])]) := by kernel_rfl
theorem rep_40 (n : Nat) : repArr Try.prog 40 n = some (.a64 (zer64 n)) := by kernel_rfl
theorem el_40 : elemOk Try.prog 40 = some (1, 8) := by kernel_rfl
theorem row_43 : isRowT Try.prog 43 = some false := by kernel_rfl
theorem sz_43 : szT Try.prog 43 = some 1 := by kernel_rfl
theorem al_43 (m : Mem) : evAlloc Try.prog m 43 = some (.c (.ptr m.length 0), m ++ [.row true (.a64 [0#64])]) := by kernel_rfl
theorem rep_43 (n : Nat) : repArr Try.prog 43 n = some (.a64 (zer64 n)) := by kernel_rfl
theorem el_43 : elemOk Try.prog 43 = some (1, 8) := by kernel_rfl
theorem row_45 : isRowT Try.prog 45 = some true := by kernel_rfl
theorem sz_45 : szT Try.prog 45 = some 8 := by kernel_rfl
theorem al_45 (m : Mem) : evAlloc Try.prog m 45 = some (.c (.ptr m.length 0), m ++ [.row true (.a64 (zer64 8))]) := by kernel_rfl
theorem zc_45 : (Try.prog.info? 45).bind (fun i => i.zero.map (·.cells.size)) = some 8 := by kernel_rfl
theorem za_45 : (Try.prog.info? 45).bind (fun i => i.zero.map (fun z => absArr z.cells.toList)) = some (.a64 (zer64 8)) := by kernel_rfl
theorem el_45 : elemOk Try.prog 45 = some (8, 64) := by kernel_rfl
theorem row_46 : isRowT Try.prog 46 = some false := by kernel_rfl
theorem sz_46 : szT Try.prog 46 = some 1 := by kernel_rfl
theorem al_46 (m : Mem) : evAlloc Try.prog m 46 = some (.c (.ptr m.length 0), m ++ [.row true (.ac [.nsl])]) := by kernel_rfl
theorem el_46 : elemOk Try.prog 46 = some (1, 24) := by kernel_rfl
theorem row_48 : isRowT Try.prog 48 = some true := by kernel_rfl
theorem sz_48 : szT Try.prog 48 = some 80 := by kernel_rfl
theorem al_48 (m : Mem) : evAlloc Try.prog m 48 = some (.c (.ptr m.length 0), m ++ [.row true (.a64 (zer64 80))]) := by kernel_rfl
theorem zc_48 : (Try.prog.info? 48).bind (fun i => i.zero.map (·.cells.size)) = some 80 := by kernel_rfl
theorem za_48 : (Try.prog.info? 48).bind (fun i => i.zero.map (fun z => absArr z.cells.toList)) = some (.a64 (zer64 80)) := by kernel_rfl
theorem el_48 : elemOk Try.prog 48 = some (80, 640) := by kernel_rfl
theorem row_53 : isRowT Try.prog 53 = some true := by kernel_rfl
theorem sz_53 : szT Try.prog 53 = some 4 := by kernel_rfl
theorem el_53 : elemOk Try.prog 53 = some (4, 40) := by kernel_rfl
theorem row_62 : isRowT Try.prog 62 = some false := by kernel_rfl
theorem sz_62 : szT Try.prog 62 = some 1 := by kernel_rfl
theorem row_65 : isRowT Try.prog 65 = some true := by kernel_rfl
theorem sz_65 : szT Try.prog 65 = some 11 := by kernel_rfl
theorem el_65 : elemOk Try.prog 65 = some (11, 48) := by kernel_rfl
theorem ok_3 : (Try.prog.funcs[3]?).any (fun fn => fn.body.isSome && !(fn.name == "runtime.NumGoroutine")) = true := by rw [Try.func3]; rfl
theorem ok_4 : (Try.prog.funcs[4]?).any (fun fn => fn.body.isSome && !(fn.name == "runtime.NumGoroutine")) = true := by rw [Try.func4]; rfl
theorem ok_5 : (Try.prog.funcs[5]?).any (fun fn => fn.body.isSome && !(fn.name == "runtime.NumGoroutine")) = true := by rw [Try.func5]; rfl
theorem ok_6 : (Try.prog.funcs[6]?).any (fun fn => fn.body.isSome && !(fn.name == "runtime.NumGoroutine")) = true := by rw [Try.func6]; rfl
theorem ok_7 : (Try.prog.funcs[7]?).any (fun fn => fn.body.isSome && !(fn.name == "runtime.NumGoroutine")) = true := by rw [Try.func7]; rfl
theorem ok_8 : (Try.prog.funcs[8]?).any (fun fn => fn.body.isSome && !(fn.name == "runtime.NumGoroutine")) = true := by rw [Try.func8]; rfl
theorem ok_9 : (Try.prog.funcs[9]?).any (fun fn => fn.body.isSome && !(fn.name == "runtime.NumGoroutine")) = true := by rw [Try.func9]; rfl
theorem ok_10 : (Try.prog.funcs[10]?).any (fun fn => fn.body.isSome && !(fn.name == "runtime.NumGoroutine")) = true := by rw [Try.func10]; rfl
theorem ok_11 : (Try.prog.funcs[11]?).any (fun fn => fn.body.isSome && !(fn.name == "runtime.NumGoroutine")) = true := by rw [Try.func11]; rfl
theorem ok_12 : (Try.prog.funcs[12]?).any (fun fn => fn.body.isSome && !(fn.name == "runtime.NumGoroutine")) = true := by rw [Try.func12]; rfl
theorem ok_13 : (Try.prog.funcs[13]?).any (fun fn => fn.body.isSome && !(fn.name == "runtime.NumGoroutine")) = true := by rw [Try.func13]; rfl
theorem ok_14 : (Try.prog.funcs[14]?).any (fun fn => fn.body.isSome && !(fn.name == "runtime.NumGoroutine")) = true := by rw [Try.func14]; rfl
theorem ok_15 : (Try.prog.funcs[15]?).any (fun fn => fn.body.isSome && !(fn.name == "runtime.NumGoroutine")) = true := by rw [Try.func15]; rfl
theorem ok_16 : (Try.prog.funcs[16]?).any (fun fn => fn.body.isSome && !(fn.name == "runtime.NumGoroutine")) = true := by rw [Try.func16]; rfl
theorem ok_17 : (Try.prog.funcs[17]?).any (fun fn => fn.body.isSome && !(fn.name == "runtime.NumGoroutine")) = true := by rw [Try.func17]; rfl
theorem ok_18 : (Try.prog.funcs[18]?).any (fun fn => fn.body.isSome && !(fn.name == "runtime.NumGoroutine")) = true := by rw [Try.func18]; rfl
theorem ok_19 : (Try.prog.funcs[19]?).any (fun fn => fn.body.isSome && !(fn.name == "runtime.NumGoroutine")) = true := by rw [Try.func19]; rfl
theorem ok_20 : (Try.prog.funcs[20]?).any (fun fn => fn.body.isSome && !(fn.name == "runtime.NumGoroutine")) = true := by rw [Try.func20]; rfl
theorem ok_21 : (Try.prog.funcs[21]?).any (fun fn => fn.body.isSome && !(fn.name == "runtime.NumGoroutine")) = true := by rw [Try.func21]; rfl
theorem ok_22 : (Try.prog.funcs[22]?).any (fun fn => fn.body.isSome && !(fn.name == "runtime.NumGoroutine")) = true := by rw [Try.func22]; rfl
theorem ok_23 : (Try.prog.funcs[23]?).any (fun fn => fn.body.isSome && !(fn.name == "runtime.NumGoroutine")) = true := by rw [Try.func23]; rfl
theorem ok_24 : (Try.prog.funcs[24]?).any (fun fn => fn.body.isSome && !(fn.name == "runtime.NumGoroutine")) = true := by rw [Try.func24]; rfl
theorem ok_25 : (Try.prog.funcs[25]?).any (fun fn => fn.body.isSome && !(fn.name == "runtime.NumGoroutine")) = true := by rw [Try.func25]; rfl
theorem ok_26 : (Try.prog.funcs[26]?).any (fun fn => fn.body.isSome && !(fn.name == "runtime.NumGoroutine")) = true := by rw [Try.func26]; rfl
theorem mixed : Try.prog.follows .mixedOrders = true := by kernel_rfl
end Go.Proofs.Ytgjilodkdgcoaaa
