/- The functions that the law comes to and that are answered in place, and the variables named on its road. No condition. -/
import Derived.Test.YtaiopdbghclmeaaGreatDoorEvCb
namespace Go.Proofs.YtaiopdbghclmeaaGreatDoor
open Go
def road0 : List Nat := [3, 4, 17, 37, 86, 87, 153, 155, 251, 316, 252, 156, 157, 154, 158, 253, 255, 319, 374, 373, 258, 409, 433, 464, 493, 492, 494, 522, 472, 515, 530, 548, 442, 473, 516, 474, 475, 422, 446, 436, 465, 466, 337, 496, 497, 467, 468, 498, 499, 526, 527, 517, 476, 523, 524, 453, 488, 439, 549, 550, 556, 560, 365, 557, 551, 307, 419, 440, 471, 366, 407, 512, 513, 514]
set_option maxRecDepth 1000000 in
theorem vn0 : (road0.flatMap fun g => ((Tryz.prog.funcs[g]?).bind (·.body)).elim [] Code.globalsNamed) = [0, 1, 8, 9, 6, 10, 11, 2, 2, 2] := by kernel_rfl
def road1 : List Nat := [547, 558, 561, 562, 563, 566, 564, 309, 367, 567, 570, 308, 583, 552, 559, 565, 568, 571, 584, 585, 580, 586, 572, 573, 575, 574, 576, 577, 533, 532, 534, 481, 553, 539, 538, 587, 578, 579, 509, 542, 555, 541, 543, 588, 544, 569, 581, 582, 589, 415, 418, 437, 495, 525, 318, 372, 254, 317, 160, 257, 320, 159, 256, 85, 151, 248, 249, 310, 368, 369, 311, 312, 313, 370]
set_option maxRecDepth 1000000 in
theorem vn1 : (road1.flatMap fun g => ((Tryz.prog.funcs[g]?).bind (·.body)).elim [] Code.globalsNamed) = [3, 4, 14, 7, 14, 14, 16, 16, 16, 12, 12, 17, 17, 17, 17, 13, 13, 15, 7, 15, 15, 18, 18, 18, 1] := by kernel_rfl
def road2 : List Nat := [314, 371, 408, 315, 250, 152, 88, 161, 259, 134, 132, 223, 133, 321, 375, 376, 377, 410, 378, 260, 322, 379, 411, 135, 162, 261, 262, 323, 263, 324, 380, 382, 413, 435, 381, 412, 434, 383, 414, 384, 416, 417, 438, 469, 500, 501, 502, 528, 529, 503, 504, 505, 531, 535, 536, 537, 506, 507, 540, 554, 508, 510, 545, 546, 470, 511, 420, 441, 421, 443, 477, 478, 445, 444]
set_option maxRecDepth 1000000 in
theorem vn2 : (road2.flatMap fun g => ((Tryz.prog.funcs[g]?).bind (·.body)).elim [] Code.globalsNamed) = [1, 0, 1, 7, 6, 7] := by kernel_rfl
def road3 : List Nat := [479, 518, 387, 423, 447, 480, 448, 385, 386, 325, 388, 38, 89, 163, 164, 165, 264, 188, 166, 167, 265, 266, 110, 90, 91, 169, 168, 267, 170, 268, 189, 281, 171, 269, 92, 172, 270, 326, 72, 271, 272, 327, 389, 424, 390, 273, 93, 173, 175, 103, 187, 174, 176, 275, 336, 274, 328, 329, 391, 330, 392, 393, 331, 394, 395, 425, 332, 333, 334, 335, 177, 178, 276, 115]
set_option maxRecDepth 1000000 in
theorem vn3 : (road3.flatMap fun g => ((Tryz.prog.funcs[g]?).bind (·.body)).elim [] Code.globalsNamed) = [1] := by kernel_rfl
def road4 : List Nat := [179, 94, 180, 181, 277, 338, 339, 340, 341, 278, 342, 279, 280, 343, 182, 95, 183, 18, 35, 39, 40, 96, 97, 98, 99, 41, 100, 68, 184, 69, 131, 71, 101, 185, 102, 186, 73, 104, 105, 42, 83, 5, 15, 19, 43, 106, 190, 191, 49, 84, 55, 116, 117, 198, 118, 107, 112, 195, 192, 282, 193, 44, 66, 45, 108, 46, 47, 48, 109, 50, 111, 194, 51, 6]
set_option maxRecDepth 1000000 in
theorem vn4 : (road4.flatMap fun g => ((Tryz.prog.funcs[g]?).bind (·.body)).elim [] Code.globalsNamed) = [] := by kernel_rfl
def road5 : List Nat := [21, 22, 53, 54, 113, 114, 196, 197, 283, 344, 56, 57, 23, 58, 59, 119, 60, 120, 121, 199, 200, 201, 202, 284, 345, 203, 285, 286, 346, 396, 61, 122, 204, 205, 206, 137, 287, 347, 301, 350, 351, 398, 353, 403, 402, 399, 426, 449, 450, 482, 291, 483, 519, 484, 520, 485, 427, 451, 486, 428, 452, 487, 430, 454, 429, 352, 400, 431, 455, 461, 456, 489, 457, 458]
set_option maxRecDepth 1000000 in
theorem vn5 : (road5.flatMap fun g => ((Tryz.prog.funcs[g]?).bind (·.body)).elim [] Code.globalsNamed) = [] := by kernel_rfl
def road6 : List Nat := [490, 491, 521, 459, 460, 462, 463, 401, 288, 207, 138, 208, 289, 20, 52, 63, 7, 24, 62, 123, 209, 290, 210, 211, 221, 220, 292, 348, 397, 213, 212, 124, 214, 215, 216, 293, 294, 217, 218, 127, 222, 219, 125, 126, 8, 25, 9, 26, 64, 65, 128, 129, 130, 67, 10, 27, 28, 70, 74, 75, 136, 224, 225, 295, 226, 228, 227, 296, 11, 29, 30, 76, 77, 139]
set_option maxRecDepth 1000000 in
theorem vn6 : (road6.flatMap fun g => ((Tryz.prog.funcs[g]?).bind (·.body)).elim [] Code.globalsNamed) = [] := by kernel_rfl
def road7 : List Nat := [140, 229, 297, 230, 231, 78, 141, 142, 143, 232, 298, 233, 234, 239, 235, 237, 236, 299, 79, 144, 238, 240, 80, 12, 31, 32, 33, 81, 145, 241, 300, 349, 242, 146, 243, 302, 244, 303, 304, 355, 354, 356, 148, 247, 147, 245, 305, 246, 306, 357, 358, 404, 359, 360, 405, 406, 432, 361, 362, 363, 364, 149, 82, 150, 13, 34, 14, 16, 36]
set_option maxRecDepth 1000000 in
theorem vn7 : (road7.flatMap fun g => ((Tryz.prog.funcs[g]?).bind (·.body)).elim [] Code.globalsNamed) = [] := by kernel_rfl
set_option maxRecDepth 1000000 in
theorem road_cut : roadL = road0 ++ road1 ++ road2 ++ road3 ++ road4 ++ road5 ++ road6 ++ road7 := by kernel_rfl
set_option maxRecDepth 1000000 in
theorem inPlace_is : (roadL.filterMap fun g => (Tryz.prog.funcs[g]?).bind fun fn => if fn.ours || fn.body.isNone || fn.name == "runtime.NumGoroutine" then some fn.name else none) = Rows.serviceNumbersRow.inPlace := by kernel_rfl
theorem fact9 : (Rows.serviceNumbersRow.inPlace == Tryz.prog.inPlace 3) = true := by
  have h : Tryz.prog.inPlace 3 = Rows.serviceNumbersRow.inPlace := by
    unfold Program.inPlace
    rw [road]
    exact inPlace_is
  rw [h]
  exact beq_self_eq_true _
theorem vn_all : (roadL.flatMap fun g => ((Tryz.prog.funcs[g]?).bind (·.body)).elim [] Code.globalsNamed) = [0, 1, 8, 9, 6, 10, 11, 2, 2, 2, 3, 4, 14, 7, 14, 14, 16, 16, 16, 12, 12, 17, 17, 17, 17, 13, 13, 15, 7, 15, 15, 18, 18, 18, 1, 1, 0, 1, 7, 6, 7, 1] := by
  rw [road_cut]
  simp only [List.flatMap_append, vn0, vn1, vn2, vn3, vn4, vn5, vn6, vn7]
  rfl
set_option maxRecDepth 1000000 in
theorem vn_last : (((([0, 1, 8, 9, 6, 10, 11, 2, 2, 2, 3, 4, 14, 7, 14, 14, 16, 16, 16, 12, 12, 17, 17, 17, 17, 13, 13, 15, 7, 15, 15, 18, 18, 18, 1, 1, 0, 1, 7, 6, 7, 1] : List Nat).eraseDups).filterMap (fun g => (Tryz.prog.globals[g]?).map (·.name))) ++ roadL.filterMap fun g => (Tryz.prog.funcs[g]?).bind fun fn => if fn.body.isNone then entryReads.lookup fn.name else none).eraseDups = Rows.serviceNumbersRow.named := by kernel_rfl
theorem fact12 : (Rows.serviceNumbersRow.named == Tryz.prog.varsNamed 3) = true := by
  have h : Tryz.prog.varsNamed 3 = Rows.serviceNumbersRow.named := by
    unfold Program.varsNamed
    rw [road, vn_all]
    exact vn_last
  rw [h]
  exact beq_self_eq_true _
end Go.Proofs.YtaiopdbghclmeaaGreatDoor
