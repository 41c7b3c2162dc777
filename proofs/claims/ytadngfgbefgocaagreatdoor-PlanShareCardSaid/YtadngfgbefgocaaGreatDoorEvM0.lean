/- What the closed question reads, and the calls at which its run is cut. No condition. -/
import Derived.Test.YtadngfgbefgocaaGreatDoorEvF
import Derived.Test.YtadngfgbefgocaaGreatDoorRows
import Derived.KernelRfl
namespace Go.Proofs.YtadngfgbefgocaaGreatDoor
open Go Go.Ev
/-- the cells of a struct's data -/
def flatR (d : DataW Unit) : List Value := ((partsOf d).map flatS).flatten
noncomputable def gl : List (Nat × Obj) := [
  (1, .cells (((partsOf Rows.laid_latchkey_syntax_kinds).map flatS).flatten).toArray 0 (0, 0)),
  (2, .cells (((partsOf Rows.laid_latchkey_syntax_ranks).map flatR).flatten).toArray 0 (0, 0))]
noncomputable def evE : Env := { P := Tryz.prog, base := 3, gl := gl }
def sB (l : List Nat) : Value := .string ⟨(l.map UInt8.ofNat).toArray⟩
theorem evMixed : evE.P.follows .mixedOrders = true := by kernel_rfl
def src : Value := sB [116, 121, 112, 101, 32, 117, 115, 101, 114, 32, 116, 121, 112, 101, 32, 116, 101, 97, 109, 32, 114, 101, 108, 97, 116, 105, 111, 110, 32, 109, 101, 109, 98, 101, 114, 58, 32, 91, 117, 115, 101, 114, 44, 32, 116, 101, 97, 109, 35, 109, 101, 109, 98, 101, 114, 93, 32, 116, 121, 112, 101, 32, 100, 111, 99, 32, 114, 101, 108, 97, 116, 105, 111, 110, 32, 104, 111, 109, 101, 58, 32, 91, 116, 101, 97, 109, 93, 32, 114, 101, 108, 97, 116, 105, 111, 110, 32, 118, 105, 101, 119, 101, 114, 58, 32, 91, 117, 115, 101, 114, 44, 32, 116, 101, 97, 109, 35, 109, 101, 109, 98, 101, 114, 93, 32, 111, 114, 32, 109, 101, 109, 98, 101, 114, 32, 102, 114, 111, 109, 32, 104, 111, 109, 101]
def memo1 : Memo := {
  f := 122
  n := 11
  args := [.pointer (some ⟨9, 0, none⟩)]
  pre := [
    (9, .cells ⟨[src, .int .i64 0, .int .i64 1, .int .i64 0]⟩ 215 (0, 0))]
  out := .ret (.tuple ⟨[.agg ⟨[.int .i64 2, sB [116, 121, 112, 101], .int .i64 1, .int .i64 1]⟩, .int .i64 (-1)]⟩)
  n' := 14
  post := [
    (9, .cells ⟨[src, .int .i64 4, .int .i64 1, .int .i64 0]⟩ 215 (0, 0))] }

def memo2 : Memo := {
  f := 122
  n := 18
  args := [.pointer (some ⟨9, 0, none⟩)]
  pre := [
    (9, .cells ⟨[src, .int .i64 5, .int .i64 1, .int .i64 0]⟩ 215 (0, 0))]
  out := .ret (.tuple ⟨[.agg ⟨[.int .i64 1, sB [117, 115, 101, 114], .int .i64 1, .int .i64 6]⟩, .int .i64 (-1)]⟩)
  n' := 21
  post := [
    (9, .cells ⟨[src, .int .i64 9, .int .i64 1, .int .i64 0]⟩ 215 (0, 0))] }

def memo3 : Memo := {
  f := 122
  n := 25
  args := [.pointer (some ⟨9, 0, none⟩)]
  pre := [
    (9, .cells ⟨[src, .int .i64 10, .int .i64 1, .int .i64 0]⟩ 215 (0, 0))]
  out := .ret (.tuple ⟨[.agg ⟨[.int .i64 2, sB [116, 121, 112, 101], .int .i64 1, .int .i64 11]⟩, .int .i64 (-1)]⟩)
  n' := 28
  post := [
    (9, .cells ⟨[src, .int .i64 14, .int .i64 1, .int .i64 0]⟩ 215 (0, 0))] }

def memo4 : Memo := {
  f := 122
  n := 32
  args := [.pointer (some ⟨9, 0, none⟩)]
  pre := [
    (9, .cells ⟨[src, .int .i64 15, .int .i64 1, .int .i64 0]⟩ 215 (0, 0))]
  out := .ret (.tuple ⟨[.agg ⟨[.int .i64 1, sB [116, 101, 97, 109], .int .i64 1, .int .i64 16]⟩, .int .i64 (-1)]⟩)
  n' := 35
  post := [
    (9, .cells ⟨[src, .int .i64 19, .int .i64 1, .int .i64 0]⟩ 215 (0, 0))] }

def memo5 : Memo := {
  f := 122
  n := 39
  args := [.pointer (some ⟨9, 0, none⟩)]
  pre := [
    (9, .cells ⟨[src, .int .i64 20, .int .i64 1, .int .i64 0]⟩ 215 (0, 0))]
  out := .ret (.tuple ⟨[.agg ⟨[.int .i64 2, sB [114, 101, 108, 97, 116, 105, 111, 110], .int .i64 1, .int .i64 21]⟩, .int .i64 (-1)]⟩)
  n' := 42
  post := [
    (9, .cells ⟨[src, .int .i64 28, .int .i64 1, .int .i64 0]⟩ 215 (0, 0))] }

def memo6 : Memo := {
  f := 122
  n := 46
  args := [.pointer (some ⟨9, 0, none⟩)]
  pre := [
    (9, .cells ⟨[src, .int .i64 29, .int .i64 1, .int .i64 0]⟩ 215 (0, 0))]
  out := .ret (.tuple ⟨[.agg ⟨[.int .i64 1, sB [109, 101, 109, 98, 101, 114], .int .i64 1, .int .i64 30]⟩, .int .i64 (-1)]⟩)
  n' := 49
  post := [
    (9, .cells ⟨[src, .int .i64 35, .int .i64 1, .int .i64 0]⟩ 215 (0, 0))] }

def memo7 : Memo := {
  f := 122
  n := 53
  args := [.pointer (some ⟨9, 0, none⟩)]
  pre := [
    (9, .cells ⟨[src, .int .i64 35, .int .i64 1, .int .i64 0]⟩ 215 (0, 0))]
  out := .ret (.tuple ⟨[.agg ⟨[.int .i64 6, sB [58], .int .i64 1, .int .i64 36]⟩, .int .i64 (-1)]⟩)
  n' := 55
  post := [
    (9, .cells ⟨[src, .int .i64 36, .int .i64 1, .int .i64 0]⟩ 215 (0, 0))] }

def memo8 : Memo := {
  f := 122
  n := 59
  args := [.pointer (some ⟨9, 0, none⟩)]
  pre := [
    (9, .cells ⟨[src, .int .i64 37, .int .i64 1, .int .i64 0]⟩ 215 (0, 0))]
  out := .ret (.tuple ⟨[.agg ⟨[.int .i64 6, sB [91], .int .i64 1, .int .i64 38]⟩, .int .i64 (-1)]⟩)
  n' := 61
  post := [
    (9, .cells ⟨[src, .int .i64 38, .int .i64 1, .int .i64 0]⟩ 215 (0, 0))] }

def memo9 : Memo := {
  f := 122
  n := 65
  args := [.pointer (some ⟨9, 0, none⟩)]
  pre := [
    (9, .cells ⟨[src, .int .i64 38, .int .i64 1, .int .i64 0]⟩ 215 (0, 0))]
  out := .ret (.tuple ⟨[.agg ⟨[.int .i64 1, sB [117, 115, 101, 114], .int .i64 1, .int .i64 39]⟩, .int .i64 (-1)]⟩)
  n' := 68
  post := [
    (9, .cells ⟨[src, .int .i64 42, .int .i64 1, .int .i64 0]⟩ 215 (0, 0))] }

def memo10 : Memo := {
  f := 122
  n := 72
  args := [.pointer (some ⟨9, 0, none⟩)]
  pre := [
    (9, .cells ⟨[src, .int .i64 42, .int .i64 1, .int .i64 0]⟩ 215 (0, 0))]
  out := .ret (.tuple ⟨[.agg ⟨[.int .i64 6, sB [44], .int .i64 1, .int .i64 43]⟩, .int .i64 (-1)]⟩)
  n' := 74
  post := [
    (9, .cells ⟨[src, .int .i64 43, .int .i64 1, .int .i64 0]⟩ 215 (0, 0))] }

def memo11 : Memo := {
  f := 122
  n := 78
  args := [.pointer (some ⟨9, 0, none⟩)]
  pre := [
    (9, .cells ⟨[src, .int .i64 44, .int .i64 1, .int .i64 0]⟩ 215 (0, 0))]
  out := .ret (.tuple ⟨[.agg ⟨[.int .i64 1, sB [116, 101, 97, 109], .int .i64 1, .int .i64 45]⟩, .int .i64 (-1)]⟩)
  n' := 81
  post := [
    (9, .cells ⟨[src, .int .i64 48, .int .i64 1, .int .i64 0]⟩ 215 (0, 0))] }

def memo12 : Memo := {
  f := 122
  n := 85
  args := [.pointer (some ⟨9, 0, none⟩)]
  pre := [
    (9, .cells ⟨[src, .int .i64 48, .int .i64 1, .int .i64 0]⟩ 215 (0, 0))]
  out := .ret (.tuple ⟨[.agg ⟨[.int .i64 6, sB [35], .int .i64 1, .int .i64 49]⟩, .int .i64 (-1)]⟩)
  n' := 87
  post := [
    (9, .cells ⟨[src, .int .i64 49, .int .i64 1, .int .i64 0]⟩ 215 (0, 0))] }

def memo13 : Memo := {
  f := 122
  n := 91
  args := [.pointer (some ⟨9, 0, none⟩)]
  pre := [
    (9, .cells ⟨[src, .int .i64 49, .int .i64 1, .int .i64 0]⟩ 215 (0, 0))]
  out := .ret (.tuple ⟨[.agg ⟨[.int .i64 1, sB [109, 101, 109, 98, 101, 114], .int .i64 1, .int .i64 50]⟩, .int .i64 (-1)]⟩)
  n' := 94
  post := [
    (9, .cells ⟨[src, .int .i64 55, .int .i64 1, .int .i64 0]⟩ 215 (0, 0))] }

def memo14 : Memo := {
  f := 122
  n := 98
  args := [.pointer (some ⟨9, 0, none⟩)]
  pre := [
    (9, .cells ⟨[src, .int .i64 55, .int .i64 1, .int .i64 0]⟩ 215 (0, 0))]
  out := .ret (.tuple ⟨[.agg ⟨[.int .i64 6, sB [93], .int .i64 1, .int .i64 56]⟩, .int .i64 (-1)]⟩)
  n' := 100
  post := [
    (9, .cells ⟨[src, .int .i64 56, .int .i64 1, .int .i64 0]⟩ 215 (0, 0))] }

def memo15 : Memo := {
  f := 122
  n := 104
  args := [.pointer (some ⟨9, 0, none⟩)]
  pre := [
    (9, .cells ⟨[src, .int .i64 57, .int .i64 1, .int .i64 0]⟩ 215 (0, 0))]
  out := .ret (.tuple ⟨[.agg ⟨[.int .i64 2, sB [116, 121, 112, 101], .int .i64 1, .int .i64 58]⟩, .int .i64 (-1)]⟩)
  n' := 107
  post := [
    (9, .cells ⟨[src, .int .i64 61, .int .i64 1, .int .i64 0]⟩ 215 (0, 0))] }

def memo16 : Memo := {
  f := 122
  n := 111
  args := [.pointer (some ⟨9, 0, none⟩)]
  pre := [
    (9, .cells ⟨[src, .int .i64 62, .int .i64 1, .int .i64 0]⟩ 215 (0, 0))]
  out := .ret (.tuple ⟨[.agg ⟨[.int .i64 1, sB [100, 111, 99], .int .i64 1, .int .i64 63]⟩, .int .i64 (-1)]⟩)
  n' := 114
  post := [
    (9, .cells ⟨[src, .int .i64 65, .int .i64 1, .int .i64 0]⟩ 215 (0, 0))] }

def memo17 : Memo := {
  f := 122
  n := 118
  args := [.pointer (some ⟨9, 0, none⟩)]
  pre := [
    (9, .cells ⟨[src, .int .i64 66, .int .i64 1, .int .i64 0]⟩ 215 (0, 0))]
  out := .ret (.tuple ⟨[.agg ⟨[.int .i64 2, sB [114, 101, 108, 97, 116, 105, 111, 110], .int .i64 1, .int .i64 67]⟩, .int .i64 (-1)]⟩)
  n' := 121
  post := [
    (9, .cells ⟨[src, .int .i64 74, .int .i64 1, .int .i64 0]⟩ 215 (0, 0))] }

def memo18 : Memo := {
  f := 122
  n := 125
  args := [.pointer (some ⟨9, 0, none⟩)]
  pre := [
    (9, .cells ⟨[src, .int .i64 75, .int .i64 1, .int .i64 0]⟩ 215 (0, 0))]
  out := .ret (.tuple ⟨[.agg ⟨[.int .i64 1, sB [104, 111, 109, 101], .int .i64 1, .int .i64 76]⟩, .int .i64 (-1)]⟩)
  n' := 128
  post := [
    (9, .cells ⟨[src, .int .i64 79, .int .i64 1, .int .i64 0]⟩ 215 (0, 0))] }

def memo19 : Memo := {
  f := 122
  n := 132
  args := [.pointer (some ⟨9, 0, none⟩)]
  pre := [
    (9, .cells ⟨[src, .int .i64 79, .int .i64 1, .int .i64 0]⟩ 215 (0, 0))]
  out := .ret (.tuple ⟨[.agg ⟨[.int .i64 6, sB [58], .int .i64 1, .int .i64 80]⟩, .int .i64 (-1)]⟩)
  n' := 134
  post := [
    (9, .cells ⟨[src, .int .i64 80, .int .i64 1, .int .i64 0]⟩ 215 (0, 0))] }

def memo20 : Memo := {
  f := 122
  n := 138
  args := [.pointer (some ⟨9, 0, none⟩)]
  pre := [
    (9, .cells ⟨[src, .int .i64 81, .int .i64 1, .int .i64 0]⟩ 215 (0, 0))]
  out := .ret (.tuple ⟨[.agg ⟨[.int .i64 6, sB [91], .int .i64 1, .int .i64 82]⟩, .int .i64 (-1)]⟩)
  n' := 140
  post := [
    (9, .cells ⟨[src, .int .i64 82, .int .i64 1, .int .i64 0]⟩ 215 (0, 0))] }

def memo21 : Memo := {
  f := 122
  n := 144
  args := [.pointer (some ⟨9, 0, none⟩)]
  pre := [
    (9, .cells ⟨[src, .int .i64 82, .int .i64 1, .int .i64 0]⟩ 215 (0, 0))]
  out := .ret (.tuple ⟨[.agg ⟨[.int .i64 1, sB [116, 101, 97, 109], .int .i64 1, .int .i64 83]⟩, .int .i64 (-1)]⟩)
  n' := 147
  post := [
    (9, .cells ⟨[src, .int .i64 86, .int .i64 1, .int .i64 0]⟩ 215 (0, 0))] }

def memo22 : Memo := {
  f := 122
  n := 151
  args := [.pointer (some ⟨9, 0, none⟩)]
  pre := [
    (9, .cells ⟨[src, .int .i64 86, .int .i64 1, .int .i64 0]⟩ 215 (0, 0))]
  out := .ret (.tuple ⟨[.agg ⟨[.int .i64 6, sB [93], .int .i64 1, .int .i64 87]⟩, .int .i64 (-1)]⟩)
  n' := 153
  post := [
    (9, .cells ⟨[src, .int .i64 87, .int .i64 1, .int .i64 0]⟩ 215 (0, 0))] }

def memo23 : Memo := {
  f := 122
  n := 157
  args := [.pointer (some ⟨9, 0, none⟩)]
  pre := [
    (9, .cells ⟨[src, .int .i64 88, .int .i64 1, .int .i64 0]⟩ 215 (0, 0))]
  out := .ret (.tuple ⟨[.agg ⟨[.int .i64 2, sB [114, 101, 108, 97, 116, 105, 111, 110], .int .i64 1, .int .i64 89]⟩, .int .i64 (-1)]⟩)
  n' := 160
  post := [
    (9, .cells ⟨[src, .int .i64 96, .int .i64 1, .int .i64 0]⟩ 215 (0, 0))] }

def memo24 : Memo := {
  f := 122
  n := 164
  args := [.pointer (some ⟨9, 0, none⟩)]
  pre := [
    (9, .cells ⟨[src, .int .i64 97, .int .i64 1, .int .i64 0]⟩ 215 (0, 0))]
  out := .ret (.tuple ⟨[.agg ⟨[.int .i64 1, sB [118, 105, 101, 119, 101, 114], .int .i64 1, .int .i64 98]⟩, .int .i64 (-1)]⟩)
  n' := 167
  post := [
    (9, .cells ⟨[src, .int .i64 103, .int .i64 1, .int .i64 0]⟩ 215 (0, 0))] }

def memo25 : Memo := {
  f := 122
  n := 171
  args := [.pointer (some ⟨9, 0, none⟩)]
  pre := [
    (9, .cells ⟨[src, .int .i64 103, .int .i64 1, .int .i64 0]⟩ 215 (0, 0))]
  out := .ret (.tuple ⟨[.agg ⟨[.int .i64 6, sB [58], .int .i64 1, .int .i64 104]⟩, .int .i64 (-1)]⟩)
  n' := 173
  post := [
    (9, .cells ⟨[src, .int .i64 104, .int .i64 1, .int .i64 0]⟩ 215 (0, 0))] }

def memo26 : Memo := {
  f := 122
  n := 177
  args := [.pointer (some ⟨9, 0, none⟩)]
  pre := [
    (9, .cells ⟨[src, .int .i64 105, .int .i64 1, .int .i64 0]⟩ 215 (0, 0))]
  out := .ret (.tuple ⟨[.agg ⟨[.int .i64 6, sB [91], .int .i64 1, .int .i64 106]⟩, .int .i64 (-1)]⟩)
  n' := 179
  post := [
    (9, .cells ⟨[src, .int .i64 106, .int .i64 1, .int .i64 0]⟩ 215 (0, 0))] }

def memo27 : Memo := {
  f := 122
  n := 183
  args := [.pointer (some ⟨9, 0, none⟩)]
  pre := [
    (9, .cells ⟨[src, .int .i64 106, .int .i64 1, .int .i64 0]⟩ 215 (0, 0))]
  out := .ret (.tuple ⟨[.agg ⟨[.int .i64 1, sB [117, 115, 101, 114], .int .i64 1, .int .i64 107]⟩, .int .i64 (-1)]⟩)
  n' := 186
  post := [
    (9, .cells ⟨[src, .int .i64 110, .int .i64 1, .int .i64 0]⟩ 215 (0, 0))] }

def memo28 : Memo := {
  f := 122
  n := 190
  args := [.pointer (some ⟨9, 0, none⟩)]
  pre := [
    (9, .cells ⟨[src, .int .i64 110, .int .i64 1, .int .i64 0]⟩ 215 (0, 0))]
  out := .ret (.tuple ⟨[.agg ⟨[.int .i64 6, sB [44], .int .i64 1, .int .i64 111]⟩, .int .i64 (-1)]⟩)
  n' := 192
  post := [
    (9, .cells ⟨[src, .int .i64 111, .int .i64 1, .int .i64 0]⟩ 215 (0, 0))] }

def memo29 : Memo := {
  f := 122
  n := 196
  args := [.pointer (some ⟨9, 0, none⟩)]
  pre := [
    (9, .cells ⟨[src, .int .i64 112, .int .i64 1, .int .i64 0]⟩ 215 (0, 0))]
  out := .ret (.tuple ⟨[.agg ⟨[.int .i64 1, sB [116, 101, 97, 109], .int .i64 1, .int .i64 113]⟩, .int .i64 (-1)]⟩)
  n' := 199
  post := [
    (9, .cells ⟨[src, .int .i64 116, .int .i64 1, .int .i64 0]⟩ 215 (0, 0))] }

def memo30 : Memo := {
  f := 122
  n := 203
  args := [.pointer (some ⟨9, 0, none⟩)]
  pre := [
    (9, .cells ⟨[src, .int .i64 116, .int .i64 1, .int .i64 0]⟩ 215 (0, 0))]
  out := .ret (.tuple ⟨[.agg ⟨[.int .i64 6, sB [35], .int .i64 1, .int .i64 117]⟩, .int .i64 (-1)]⟩)
  n' := 205
  post := [
    (9, .cells ⟨[src, .int .i64 117, .int .i64 1, .int .i64 0]⟩ 215 (0, 0))] }

def memo31 : Memo := {
  f := 122
  n := 209
  args := [.pointer (some ⟨9, 0, none⟩)]
  pre := [
    (9, .cells ⟨[src, .int .i64 117, .int .i64 1, .int .i64 0]⟩ 215 (0, 0))]
  out := .ret (.tuple ⟨[.agg ⟨[.int .i64 1, sB [109, 101, 109, 98, 101, 114], .int .i64 1, .int .i64 118]⟩, .int .i64 (-1)]⟩)
  n' := 212
  post := [
    (9, .cells ⟨[src, .int .i64 123, .int .i64 1, .int .i64 0]⟩ 215 (0, 0))] }

def memo32 : Memo := {
  f := 122
  n := 216
  args := [.pointer (some ⟨9, 0, none⟩)]
  pre := [
    (9, .cells ⟨[src, .int .i64 123, .int .i64 1, .int .i64 0]⟩ 215 (0, 0))]
  out := .ret (.tuple ⟨[.agg ⟨[.int .i64 6, sB [93], .int .i64 1, .int .i64 124]⟩, .int .i64 (-1)]⟩)
  n' := 218
  post := [
    (9, .cells ⟨[src, .int .i64 124, .int .i64 1, .int .i64 0]⟩ 215 (0, 0))] }

def memo33 : Memo := {
  f := 122
  n := 222
  args := [.pointer (some ⟨9, 0, none⟩)]
  pre := [
    (9, .cells ⟨[src, .int .i64 125, .int .i64 1, .int .i64 0]⟩ 215 (0, 0))]
  out := .ret (.tuple ⟨[.agg ⟨[.int .i64 2, sB [111, 114], .int .i64 1, .int .i64 126]⟩, .int .i64 (-1)]⟩)
  n' := 225
  post := [
    (9, .cells ⟨[src, .int .i64 127, .int .i64 1, .int .i64 0]⟩ 215 (0, 0))] }

def memo34 : Memo := {
  f := 122
  n := 229
  args := [.pointer (some ⟨9, 0, none⟩)]
  pre := [
    (9, .cells ⟨[src, .int .i64 128, .int .i64 1, .int .i64 0]⟩ 215 (0, 0))]
  out := .ret (.tuple ⟨[.agg ⟨[.int .i64 1, sB [109, 101, 109, 98, 101, 114], .int .i64 1, .int .i64 129]⟩, .int .i64 (-1)]⟩)
  n' := 232
  post := [
    (9, .cells ⟨[src, .int .i64 134, .int .i64 1, .int .i64 0]⟩ 215 (0, 0))] }

def memo35 : Memo := {
  f := 122
  n := 236
  args := [.pointer (some ⟨9, 0, none⟩)]
  pre := [
    (9, .cells ⟨[src, .int .i64 135, .int .i64 1, .int .i64 0]⟩ 215 (0, 0))]
  out := .ret (.tuple ⟨[.agg ⟨[.int .i64 2, sB [102, 114, 111, 109], .int .i64 1, .int .i64 136]⟩, .int .i64 (-1)]⟩)
  n' := 239
  post := [
    (9, .cells ⟨[src, .int .i64 139, .int .i64 1, .int .i64 0]⟩ 215 (0, 0))] }

def memo36 : Memo := {
  f := 122
  n := 243
  args := [.pointer (some ⟨9, 0, none⟩)]
  pre := [
    (9, .cells ⟨[src, .int .i64 140, .int .i64 1, .int .i64 0]⟩ 215 (0, 0))]
  out := .ret (.tuple ⟨[.agg ⟨[.int .i64 1, sB [104, 111, 109, 101], .int .i64 1, .int .i64 141]⟩, .int .i64 (-1)]⟩)
  n' := 246
  post := [
    (9, .cells ⟨[src, .int .i64 144, .int .i64 1, .int .i64 0]⟩ 215 (0, 0))] }

def memo37 : Memo := {
  f := 74
  n := 8
  args := [src]
  pre := [
    ]
  out := .ret (.tuple ⟨[.slice (some ⟨250, 0, none⟩) 37 1152921504606847013, .agg ⟨[.int .i64 0, .int .i64 0, .int .i64 0]⟩]⟩)
  n' := 251
  post := [
    (250, .cells ⟨[.int .i64 2, sB [116, 121, 112, 101], .int .i64 1, .int .i64 1, .int .i64 1, sB [117, 115, 101, 114], .int .i64 1, .int .i64 6, .int .i64 2, sB [116, 121, 112, 101], .int .i64 1, .int .i64 11, .int .i64 1, sB [116, 101, 97, 109], .int .i64 1, .int .i64 16, .int .i64 2, sB [114, 101, 108, 97, 116, 105, 111, 110], .int .i64 1, .int .i64 21, .int .i64 1, sB [109, 101, 109, 98, 101, 114], .int .i64 1, .int .i64 30, .int .i64 6, sB [58], .int .i64 1, .int .i64 36, .int .i64 6, sB [91], .int .i64 1, .int .i64 38, .int .i64 1, sB [117, 115, 101, 114], .int .i64 1, .int .i64 39, .int .i64 6, sB [44], .int .i64 1, .int .i64 43, .int .i64 1, sB [116, 101, 97, 109], .int .i64 1, .int .i64 45, .int .i64 6, sB [35], .int .i64 1, .int .i64 49, .int .i64 1, sB [109, 101, 109, 98, 101, 114], .int .i64 1, .int .i64 50, .int .i64 6, sB [93], .int .i64 1, .int .i64 56, .int .i64 2, sB [116, 121, 112, 101], .int .i64 1, .int .i64 58, .int .i64 1, sB [100, 111, 99], .int .i64 1, .int .i64 63, .int .i64 2, sB [114, 101, 108, 97, 116, 105, 111, 110], .int .i64 1, .int .i64 67, .int .i64 1, sB [104, 111, 109, 101], .int .i64 1, .int .i64 76, .int .i64 6, sB [58], .int .i64 1, .int .i64 80, .int .i64 6, sB [91], .int .i64 1, .int .i64 82, .int .i64 1, sB [116, 101, 97, 109], .int .i64 1, .int .i64 83, .int .i64 6, sB [93], .int .i64 1, .int .i64 87, .int .i64 2, sB [114, 101, 108, 97, 116, 105, 111, 110], .int .i64 1, .int .i64 89, .int .i64 1, sB [118, 105, 101, 119, 101, 114], .int .i64 1, .int .i64 98, .int .i64 6, sB [58], .int .i64 1, .int .i64 104, .int .i64 6, sB [91], .int .i64 1, .int .i64 106, .int .i64 1, sB [117, 115, 101, 114], .int .i64 1, .int .i64 107, .int .i64 6, sB [44], .int .i64 1, .int .i64 111, .int .i64 1, sB [116, 101, 97, 109], .int .i64 1, .int .i64 113, .int .i64 6, sB [35], .int .i64 1, .int .i64 117, .int .i64 1, sB [109, 101, 109, 98, 101, 114], .int .i64 1, .int .i64 118, .int .i64 6, sB [93], .int .i64 1, .int .i64 124, .int .i64 2, sB [111, 114], .int .i64 1, .int .i64 126, .int .i64 1, sB [109, 101, 109, 98, 101, 114], .int .i64 1, .int .i64 129, .int .i64 2, sB [102, 114, 111, 109], .int .i64 1, .int .i64 136, .int .i64 1, sB [104, 111, 109, 101], .int .i64 1, .int .i64 141, .int .i64 7, sB [], .int .i64 1, .int .i64 145]⟩ 134 (0, 0))] }

def memo38 : Memo := {
  f := 43
  n := 252
  args := [.pointer (some ⟨251, 0, none⟩), .pointer (some ⟨6, 0, none⟩)]
  pre := [
    (250, .cells ⟨[.int .i64 2, sB [116, 121, 112, 101], .int .i64 1, .int .i64 1, .int .i64 1, sB [117, 115, 101, 114], .int .i64 1, .int .i64 6, .int .i64 2, sB [116, 121, 112, 101], .int .i64 1, .int .i64 11, .int .i64 1, sB [116, 101, 97, 109], .int .i64 1, .int .i64 16, .int .i64 2, sB [114, 101, 108, 97, 116, 105, 111, 110], .int .i64 1, .int .i64 21, .int .i64 1, sB [109, 101, 109, 98, 101, 114], .int .i64 1, .int .i64 30, .int .i64 6, sB [58], .int .i64 1, .int .i64 36, .int .i64 6, sB [91], .int .i64 1, .int .i64 38, .int .i64 1, sB [117, 115, 101, 114], .int .i64 1, .int .i64 39, .int .i64 6, sB [44], .int .i64 1, .int .i64 43, .int .i64 1, sB [116, 101, 97, 109], .int .i64 1, .int .i64 45, .int .i64 6, sB [35], .int .i64 1, .int .i64 49, .int .i64 1, sB [109, 101, 109, 98, 101, 114], .int .i64 1, .int .i64 50, .int .i64 6, sB [93], .int .i64 1, .int .i64 56, .int .i64 2, sB [116, 121, 112, 101], .int .i64 1, .int .i64 58, .int .i64 1, sB [100, 111, 99], .int .i64 1, .int .i64 63, .int .i64 2, sB [114, 101, 108, 97, 116, 105, 111, 110], .int .i64 1, .int .i64 67, .int .i64 1, sB [104, 111, 109, 101], .int .i64 1, .int .i64 76, .int .i64 6, sB [58], .int .i64 1, .int .i64 80, .int .i64 6, sB [91], .int .i64 1, .int .i64 82, .int .i64 1, sB [116, 101, 97, 109], .int .i64 1, .int .i64 83, .int .i64 6, sB [93], .int .i64 1, .int .i64 87, .int .i64 2, sB [114, 101, 108, 97, 116, 105, 111, 110], .int .i64 1, .int .i64 89, .int .i64 1, sB [118, 105, 101, 119, 101, 114], .int .i64 1, .int .i64 98, .int .i64 6, sB [58], .int .i64 1, .int .i64 104, .int .i64 6, sB [91], .int .i64 1, .int .i64 106, .int .i64 1, sB [117, 115, 101, 114], .int .i64 1, .int .i64 107, .int .i64 6, sB [44], .int .i64 1, .int .i64 111, .int .i64 1, sB [116, 101, 97, 109], .int .i64 1, .int .i64 113, .int .i64 6, sB [35], .int .i64 1, .int .i64 117, .int .i64 1, sB [109, 101, 109, 98, 101, 114], .int .i64 1, .int .i64 118, .int .i64 6, sB [93], .int .i64 1, .int .i64 124, .int .i64 2, sB [111, 114], .int .i64 1, .int .i64 126, .int .i64 1, sB [109, 101, 109, 98, 101, 114], .int .i64 1, .int .i64 129, .int .i64 2, sB [102, 114, 111, 109], .int .i64 1, .int .i64 136, .int .i64 1, sB [104, 111, 109, 101], .int .i64 1, .int .i64 141, .int .i64 7, sB [], .int .i64 1, .int .i64 145]⟩ 134 (0, 0)),
    (251, .cells ⟨[.slice (some ⟨250, 0, none⟩) 37 1152921504606847013, .int .i64 0]⟩ 132 (0, 0))]
  out := .ret (.agg ⟨[.slice (some ⟨514, 0, none⟩) 3 1152921504606846979, .slice none 0 0]⟩)
  n' := 516
  post := [
    (251, .cells ⟨[.slice (some ⟨250, 0, none⟩) 37 1152921504606847013, .int .i64 36]⟩ 132 (0, 0)),
    (332, .cells ⟨[sB [117, 115, 101, 114], sB [], .bool false, sB [], sB [116, 101, 97, 109], sB [109, 101, 109, 98, 101, 114], .bool false, sB []]⟩ 180 (0, 0)),
    (348, .cells ⟨[.int .i64 1, sB [], sB [], .slice (some ⟨332, 0, none⟩) 2 1152921504606846978, .int .i64 0]⟩ 171 (0, 0)),
    (350, .cells ⟨[sB [109, 101, 109, 98, 101, 114], .slice (some ⟨348, 0, none⟩) 1 1152921504606846977]⟩ 145 (0, 0)),
    (395, .cells ⟨[sB [116, 101, 97, 109], sB [], .bool false, sB []]⟩ 180 (0, 0)),
    (412, .cells ⟨[.int .i64 1, sB [], sB [], .slice (some ⟨395, 0, none⟩) 1 1, .int .i64 0]⟩ 171 (0, 0)),
    (467, .cells ⟨[sB [117, 115, 101, 114], sB [], .bool false, sB [], sB [116, 101, 97, 109], sB [109, 101, 109, 98, 101, 114], .bool false, sB []]⟩ 180 (0, 0)),
    (508, .cells ⟨[.int .i64 4, sB [], sB [], .slice none 0 0, .int .i64 2, .int .i64 1, sB [], sB [], .slice (some ⟨467, 0, none⟩) 2 1152921504606846978, .int .i64 0, .int .i64 3, sB [109, 101, 109, 98, 101, 114], sB [104, 111, 109, 101], .slice none 0 0, .int .i64 0]⟩ 171 (0, 0)),
    (510, .cells ⟨[sB [104, 111, 109, 101], .slice (some ⟨412, 0, none⟩) 1 1152921504606846977, sB [118, 105, 101, 119, 101, 114], .slice (some ⟨508, 0, none⟩) 3 1152921504606846979]⟩ 145 (0, 0)),
    (514, .cells ⟨[sB [117, 115, 101, 114], .slice none 0 0, sB [116, 101, 97, 109], .slice (some ⟨350, 0, none⟩) 1 1152921504606846977, sB [100, 111, 99], .slice (some ⟨510, 0, none⟩) 2 1152921504606846978]⟩ 142 (0, 0))] }

def memo39 : Memo := {
  f := 26
  n := 3
  args := [src]
  pre := [
    ]
  out := .ret (.tuple ⟨[.agg ⟨[.slice (some ⟨514, 0, none⟩) 3 1152921504606846979, .slice none 0 0]⟩, .agg ⟨[.int .i64 0, .int .i64 0, .int .i64 0]⟩]⟩)
  n' := 649
  post := [
    (332, .cells ⟨[sB [117, 115, 101, 114], sB [], .bool false, sB [], sB [116, 101, 97, 109], sB [109, 101, 109, 98, 101, 114], .bool false, sB []]⟩ 180 (0, 0)),
    (348, .cells ⟨[.int .i64 1, sB [], sB [], .slice (some ⟨332, 0, none⟩) 2 1152921504606846978, .int .i64 0]⟩ 171 (0, 0)),
    (350, .cells ⟨[sB [109, 101, 109, 98, 101, 114], .slice (some ⟨348, 0, none⟩) 1 1152921504606846977]⟩ 145 (0, 0)),
    (395, .cells ⟨[sB [116, 101, 97, 109], sB [], .bool false, sB []]⟩ 180 (0, 0)),
    (412, .cells ⟨[.int .i64 1, sB [], sB [], .slice (some ⟨395, 0, none⟩) 1 1, .int .i64 0]⟩ 171 (0, 0)),
    (467, .cells ⟨[sB [117, 115, 101, 114], sB [], .bool false, sB [], sB [116, 101, 97, 109], sB [109, 101, 109, 98, 101, 114], .bool false, sB []]⟩ 180 (0, 0)),
    (508, .cells ⟨[.int .i64 4, sB [], sB [], .slice none 0 0, .int .i64 2, .int .i64 1, sB [], sB [], .slice (some ⟨467, 0, none⟩) 2 1152921504606846978, .int .i64 0, .int .i64 3, sB [109, 101, 109, 98, 101, 114], sB [104, 111, 109, 101], .slice none 0 0, .int .i64 0]⟩ 171 (0, 0)),
    (510, .cells ⟨[sB [104, 111, 109, 101], .slice (some ⟨412, 0, none⟩) 1 1152921504606846977, sB [118, 105, 101, 119, 101, 114], .slice (some ⟨508, 0, none⟩) 3 1152921504606846979]⟩ 145 (0, 0)),
    (514, .cells ⟨[sB [117, 115, 101, 114], .slice none 0 0, sB [116, 101, 97, 109], .slice (some ⟨350, 0, none⟩) 1 1152921504606846977, sB [100, 111, 99], .slice (some ⟨510, 0, none⟩) 2 1152921504606846978]⟩ 142 (0, 0))] }

def memo40 : Memo := {
  f := 27
  n := 651
  args := [.agg ⟨[.slice (some ⟨514, 0, none⟩) 3 1152921504606846979, .slice none 0 0]⟩]
  pre := [
    (332, .cells ⟨[sB [117, 115, 101, 114], sB [], .bool false, sB [], sB [116, 101, 97, 109], sB [109, 101, 109, 98, 101, 114], .bool false, sB []]⟩ 180 (0, 0)),
    (348, .cells ⟨[.int .i64 1, sB [], sB [], .slice (some ⟨332, 0, none⟩) 2 1152921504606846978, .int .i64 0]⟩ 171 (0, 0)),
    (350, .cells ⟨[sB [109, 101, 109, 98, 101, 114], .slice (some ⟨348, 0, none⟩) 1 1152921504606846977]⟩ 145 (0, 0)),
    (395, .cells ⟨[sB [116, 101, 97, 109], sB [], .bool false, sB []]⟩ 180 (0, 0)),
    (412, .cells ⟨[.int .i64 1, sB [], sB [], .slice (some ⟨395, 0, none⟩) 1 1, .int .i64 0]⟩ 171 (0, 0)),
    (467, .cells ⟨[sB [117, 115, 101, 114], sB [], .bool false, sB [], sB [116, 101, 97, 109], sB [109, 101, 109, 98, 101, 114], .bool false, sB []]⟩ 180 (0, 0)),
    (508, .cells ⟨[.int .i64 4, sB [], sB [], .slice none 0 0, .int .i64 2, .int .i64 1, sB [], sB [], .slice (some ⟨467, 0, none⟩) 2 1152921504606846978, .int .i64 0, .int .i64 3, sB [109, 101, 109, 98, 101, 114], sB [104, 111, 109, 101], .slice none 0 0, .int .i64 0]⟩ 171 (0, 0)),
    (510, .cells ⟨[sB [104, 111, 109, 101], .slice (some ⟨412, 0, none⟩) 1 1152921504606846977, sB [118, 105, 101, 119, 101, 114], .slice (some ⟨508, 0, none⟩) 3 1152921504606846979]⟩ 145 (0, 0)),
    (514, .cells ⟨[sB [117, 115, 101, 114], .slice none 0 0, sB [116, 101, 97, 109], .slice (some ⟨350, 0, none⟩) 1 1152921504606846977, sB [100, 111, 99], .slice (some ⟨510, 0, none⟩) 2 1152921504606846978]⟩ 142 (0, 0))]
  out := .ret (.tuple ⟨[.pointer (some ⟨808, 0, none⟩), .agg ⟨[.int .i64 0, .int .i64 0, .int .i64 0, .int .i64 0]⟩]⟩)
  n' := 988
  post := [
    (788, .cells ⟨[sB [117, 115, 101, 114], .slice none 0 0, sB [116, 101, 97, 109], .slice (some ⟨790, 0, none⟩) 1 1152921504606846977, sB [100, 111, 99], .slice (some ⟨796, 0, none⟩) 2 1152921504606846978]⟩ 142 (0, 0)),
    (790, .cells ⟨[sB [109, 101, 109, 98, 101, 114], .slice (some ⟨792, 0, none⟩) 1 1152921504606846977]⟩ 145 (0, 0)),
    (792, .cells ⟨[.int .i64 1, sB [], sB [], .slice (some ⟨794, 0, none⟩) 2 1152921504606846978, .int .i64 0]⟩ 171 (0, 0)),
    (794, .cells ⟨[sB [117, 115, 101, 114], sB [], .bool false, sB [], sB [116, 101, 97, 109], sB [109, 101, 109, 98, 101, 114], .bool false, sB []]⟩ 180 (0, 0)),
    (796, .cells ⟨[sB [104, 111, 109, 101], .slice (some ⟨798, 0, none⟩) 1 1152921504606846977, sB [118, 105, 101, 119, 101, 114], .slice (some ⟨802, 0, none⟩) 3 1152921504606846979]⟩ 145 (0, 0)),
    (798, .cells ⟨[.int .i64 1, sB [], sB [], .slice (some ⟨800, 0, none⟩) 1 1152921504606846977, .int .i64 0]⟩ 171 (0, 0)),
    (800, .cells ⟨[sB [116, 101, 97, 109], sB [], .bool false, sB []]⟩ 180 (0, 0)),
    (802, .cells ⟨[.int .i64 4, sB [], sB [], .slice none 0 0, .int .i64 2, .int .i64 1, sB [], sB [], .slice (some ⟨804, 0, none⟩) 2 1152921504606846978, .int .i64 0, .int .i64 3, sB [109, 101, 109, 98, 101, 114], sB [104, 111, 109, 101], .slice none 0 0, .int .i64 0]⟩ 171 (0, 0)),
    (804, .cells ⟨[sB [117, 115, 101, 114], sB [], .bool false, sB [], sB [116, 101, 97, 109], sB [109, 101, 109, 98, 101, 114], .bool false, sB []]⟩ 180 (0, 0)),
    (805, .map ⟨[⟨sB [117, 115, 101, 114], .int .i64 0, 0⟩, ⟨sB [116, 101, 97, 109], .int .i64 1, 1⟩, ⟨sB [100, 111, 99], .int .i64 2, 2⟩]⟩ 3),
    (806, .map ⟨[]⟩ 0),
    (807, .map ⟨[⟨.agg ⟨[sB [116, 101, 97, 109], sB [109, 101, 109, 98, 101, 114]]⟩, .int .i64 0, 0⟩, ⟨.agg ⟨[sB [100, 111, 99], sB [104, 111, 109, 101]]⟩, .int .i64 1, 1⟩, ⟨.agg ⟨[sB [100, 111, 99], sB [118, 105, 101, 119, 101, 114]]⟩, .int .i64 2, 2⟩]⟩ 3),
    (808, .cells ⟨[.slice (some ⟨788, 0, none⟩) 3 1152921504606846979, .slice none 0 0, .map (some 805), .map (some 806), .map (some 807), .slice (some ⟨828, 0, none⟩) 3 1152921504606846979, .slice (some ⟨830, 0, none⟩) 3 1152921504606846979, .slice (some ⟨906, 0, none⟩) 3 1152921504606846980, .slice (some ⟨987, 0, none⟩) 3 3, .int .i64 5]⟩ 91 (0, 0)),
    (828, .cells ⟨[sB [116, 101, 97, 109], sB [109, 101, 109, 98, 101, 114], sB [100, 111, 99], sB [104, 111, 109, 101], sB [100, 111, 99], sB [118, 105, 101, 119, 101, 114]]⟩ 61 (0, 0)),
    (830, .cells ⟨[.slice (some ⟨792, 0, none⟩) 1 1152921504606846977, .slice (some ⟨798, 0, none⟩) 1 1152921504606846977, .slice (some ⟨802, 0, none⟩) 3 1152921504606846979]⟩ 143 (0, 0)),
    (906, .cells ⟨[.int .i64 0, .int .i64 0, .bool false, .int .i64 2, .int .i64 0, .bool false, .int .i64 2, .int .i64 1, .bool false, .int .i64 0, .int .i64 0, .bool false]⟩ 175 (0, 0)),
    (987, .cells ⟨[.int .i64 0, .int .i64 0, .int .i64 0]⟩ 3 (0, 0))] }

def memo41 : Memo := {
  f := 28
  n := 993
  args := [.pointer (some ⟨808, 0, none⟩), .agg ⟨[.slice (some ⟨989, 0, none⟩) 3 3, .slice (some ⟨990, 0, none⟩) 3 3, .slice (some ⟨991, 0, none⟩) 3 3]⟩, .agg ⟨[sB [100, 111, 99], sB [118, 105, 101, 119, 101, 114]]⟩]
  pre := [
    (788, .cells ⟨[sB [117, 115, 101, 114], .slice none 0 0, sB [116, 101, 97, 109], .slice (some ⟨790, 0, none⟩) 1 1152921504606846977, sB [100, 111, 99], .slice (some ⟨796, 0, none⟩) 2 1152921504606846978]⟩ 142 (0, 0)),
    (790, .cells ⟨[sB [109, 101, 109, 98, 101, 114], .slice (some ⟨792, 0, none⟩) 1 1152921504606846977]⟩ 145 (0, 0)),
    (792, .cells ⟨[.int .i64 1, sB [], sB [], .slice (some ⟨794, 0, none⟩) 2 1152921504606846978, .int .i64 0]⟩ 171 (0, 0)),
    (794, .cells ⟨[sB [117, 115, 101, 114], sB [], .bool false, sB [], sB [116, 101, 97, 109], sB [109, 101, 109, 98, 101, 114], .bool false, sB []]⟩ 180 (0, 0)),
    (796, .cells ⟨[sB [104, 111, 109, 101], .slice (some ⟨798, 0, none⟩) 1 1152921504606846977, sB [118, 105, 101, 119, 101, 114], .slice (some ⟨802, 0, none⟩) 3 1152921504606846979]⟩ 145 (0, 0)),
    (798, .cells ⟨[.int .i64 1, sB [], sB [], .slice (some ⟨800, 0, none⟩) 1 1152921504606846977, .int .i64 0]⟩ 171 (0, 0)),
    (800, .cells ⟨[sB [116, 101, 97, 109], sB [], .bool false, sB []]⟩ 180 (0, 0)),
    (802, .cells ⟨[.int .i64 4, sB [], sB [], .slice none 0 0, .int .i64 2, .int .i64 1, sB [], sB [], .slice (some ⟨804, 0, none⟩) 2 1152921504606846978, .int .i64 0, .int .i64 3, sB [109, 101, 109, 98, 101, 114], sB [104, 111, 109, 101], .slice none 0 0, .int .i64 0]⟩ 171 (0, 0)),
    (804, .cells ⟨[sB [117, 115, 101, 114], sB [], .bool false, sB [], sB [116, 101, 97, 109], sB [109, 101, 109, 98, 101, 114], .bool false, sB []]⟩ 180 (0, 0)),
    (807, .map ⟨[⟨.agg ⟨[sB [116, 101, 97, 109], sB [109, 101, 109, 98, 101, 114]]⟩, .int .i64 0, 0⟩, ⟨.agg ⟨[sB [100, 111, 99], sB [104, 111, 109, 101]]⟩, .int .i64 1, 1⟩, ⟨.agg ⟨[sB [100, 111, 99], sB [118, 105, 101, 119, 101, 114]]⟩, .int .i64 2, 2⟩]⟩ 3),
    (808, .cells ⟨[.slice (some ⟨788, 0, none⟩) 3 1152921504606846979, .slice none 0 0, .map (some 805), .map (some 806), .map (some 807), .slice (some ⟨828, 0, none⟩) 3 1152921504606846979, .slice (some ⟨830, 0, none⟩) 3 1152921504606846979, .slice (some ⟨906, 0, none⟩) 3 1152921504606846980, .slice (some ⟨987, 0, none⟩) 3 3, .int .i64 5]⟩ 91 (0, 0)),
    (828, .cells ⟨[sB [116, 101, 97, 109], sB [109, 101, 109, 98, 101, 114], sB [100, 111, 99], sB [104, 111, 109, 101], sB [100, 111, 99], sB [118, 105, 101, 119, 101, 114]]⟩ 61 (0, 0)),
    (830, .cells ⟨[.slice (some ⟨792, 0, none⟩) 1 1152921504606846977, .slice (some ⟨798, 0, none⟩) 1 1152921504606846977, .slice (some ⟨802, 0, none⟩) 3 1152921504606846979]⟩ 143 (0, 0)),
    (989, .cells ⟨[.int .i64 6, .int .i64 2, .int .i64 3]⟩ 3 (0, 0)),
    (990, .cells ⟨[.int .i64 3, .int .i64 2, .int .i64 1]⟩ 3 (0, 0)),
    (991, .cells ⟨[.int .i64 2, .int .i64 1, .int .i64 3]⟩ 3 (0, 0))]
  out := .ret (.tuple ⟨[.float .f32 1157570560, .int .i64 0]⟩)
  n' := 1374
  post := [
    ] }

def memo42 : Memo := {
  f := 29
  n := 1374
  args := [.pointer (some ⟨808, 0, none⟩), .agg ⟨[.slice (some ⟨989, 0, none⟩) 3 3, .slice (some ⟨990, 0, none⟩) 3 3, .slice (some ⟨991, 0, none⟩) 3 3]⟩, .agg ⟨[sB [100, 111, 99], sB [118, 105, 101, 119, 101, 114], sB [], sB [], sB [], sB [], sB [], .slice none 0 0, .int .i64 0]⟩]
  pre := [
    (788, .cells ⟨[sB [117, 115, 101, 114], .slice none 0 0, sB [116, 101, 97, 109], .slice (some ⟨790, 0, none⟩) 1 1152921504606846977, sB [100, 111, 99], .slice (some ⟨796, 0, none⟩) 2 1152921504606846978]⟩ 142 (0, 0)),
    (790, .cells ⟨[sB [109, 101, 109, 98, 101, 114], .slice (some ⟨792, 0, none⟩) 1 1152921504606846977]⟩ 145 (0, 0)),
    (792, .cells ⟨[.int .i64 1, sB [], sB [], .slice (some ⟨794, 0, none⟩) 2 1152921504606846978, .int .i64 0]⟩ 171 (0, 0)),
    (794, .cells ⟨[sB [117, 115, 101, 114], sB [], .bool false, sB [], sB [116, 101, 97, 109], sB [109, 101, 109, 98, 101, 114], .bool false, sB []]⟩ 180 (0, 0)),
    (796, .cells ⟨[sB [104, 111, 109, 101], .slice (some ⟨798, 0, none⟩) 1 1152921504606846977, sB [118, 105, 101, 119, 101, 114], .slice (some ⟨802, 0, none⟩) 3 1152921504606846979]⟩ 145 (0, 0)),
    (798, .cells ⟨[.int .i64 1, sB [], sB [], .slice (some ⟨800, 0, none⟩) 1 1152921504606846977, .int .i64 0]⟩ 171 (0, 0)),
    (800, .cells ⟨[sB [116, 101, 97, 109], sB [], .bool false, sB []]⟩ 180 (0, 0)),
    (802, .cells ⟨[.int .i64 4, sB [], sB [], .slice none 0 0, .int .i64 2, .int .i64 1, sB [], sB [], .slice (some ⟨804, 0, none⟩) 2 1152921504606846978, .int .i64 0, .int .i64 3, sB [109, 101, 109, 98, 101, 114], sB [104, 111, 109, 101], .slice none 0 0, .int .i64 0]⟩ 171 (0, 0)),
    (804, .cells ⟨[sB [117, 115, 101, 114], sB [], .bool false, sB [], sB [116, 101, 97, 109], sB [109, 101, 109, 98, 101, 114], .bool false, sB []]⟩ 180 (0, 0)),
    (807, .map ⟨[⟨.agg ⟨[sB [116, 101, 97, 109], sB [109, 101, 109, 98, 101, 114]]⟩, .int .i64 0, 0⟩, ⟨.agg ⟨[sB [100, 111, 99], sB [104, 111, 109, 101]]⟩, .int .i64 1, 1⟩, ⟨.agg ⟨[sB [100, 111, 99], sB [118, 105, 101, 119, 101, 114]]⟩, .int .i64 2, 2⟩]⟩ 3),
    (808, .cells ⟨[.slice (some ⟨788, 0, none⟩) 3 1152921504606846979, .slice none 0 0, .map (some 805), .map (some 806), .map (some 807), .slice (some ⟨828, 0, none⟩) 3 1152921504606846979, .slice (some ⟨830, 0, none⟩) 3 1152921504606846979, .slice (some ⟨906, 0, none⟩) 3 1152921504606846980, .slice (some ⟨987, 0, none⟩) 3 3, .int .i64 5]⟩ 91 (0, 0)),
    (828, .cells ⟨[sB [116, 101, 97, 109], sB [109, 101, 109, 98, 101, 114], sB [100, 111, 99], sB [104, 111, 109, 101], sB [100, 111, 99], sB [118, 105, 101, 119, 101, 114]]⟩ 61 (0, 0)),
    (830, .cells ⟨[.slice (some ⟨792, 0, none⟩) 1 1152921504606846977, .slice (some ⟨798, 0, none⟩) 1 1152921504606846977, .slice (some ⟨802, 0, none⟩) 3 1152921504606846979]⟩ 143 (0, 0)),
    (989, .cells ⟨[.int .i64 6, .int .i64 2, .int .i64 3]⟩ 3 (0, 0)),
    (990, .cells ⟨[.int .i64 3, .int .i64 2, .int .i64 1]⟩ 3 (0, 0)),
    (991, .cells ⟨[.int .i64 2, .int .i64 1, .int .i64 3]⟩ 3 (0, 0))]
  out := .ret (.tuple ⟨[.int .i64 1, .int .i64 0]⟩)
  n' := 1760
  post := [
    ] }
end Go.Proofs.YtadngfgbefgocaaGreatDoor
