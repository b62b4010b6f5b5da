/- A part of TopStops's proof: LowWhole. -/
import Derived.Deep.RegionHeld3
import Derived.Test.YtjopfpegcckllaaGreatDoorZqAb
set_option linter.unusedVariables false
set_option linter.unusedSimpArgs false
set_option linter.defProp false
set_option maxRecDepth 100000
set_option maxHeartbeats 12800000
open Go.Proofs.Tryz
open Go renaming Act→a6,World→O,Value→W,Calls→aj,Addr→am,TypeId→an,Ending→aO,sizeOf→ci,isAgg→ct,bodyPost_ret→a4
open Go.Ending renaming returned→aw
open Go.IntKind renaming u32→a7,i64→I
open Go.Lib renaming hid→G
open Go.Obj renaming cells→ao
open Go.Proofs.Tryz renaming prog→ae
open Go.RowKit renaming Hid→Y
open Go.Value renaming tuple→aY,int→H,bool→J,slice→D,agg→af,pointer→az
open Go.World renaming setCell→ag,alloc→ah
open List renaming getElem?_eq_getElem→aT
open Nat renaming le_refl→a8,le_trans→aQ
open Option renaming some→U
variable {tmps:Array W}{s:Bool}{fn:Go.Func}{y z:Int}{l:List Nat}{cs old r vs x:List W}{bI g i j n:Nat}{aD ab w w0:O}{o o':Go.Obj}{t:Go.Tmp}{a a0 a1 a2 b b4 bB bK bP bT bY bb bq c cN cO cn d da dy dz e er fA fw fx fy fz hv hx hy u v x0 x1 x2 x3 x4:W}{q:am}{Q R S T:an}
namespace Go.Proofs.YtjopfpegcckllaaGreatDoor
open Go.RowKit
def Bx (T:an)(w:O)(g:Nat)(vs:List W):Prop:=w.heap[g]? =U (ao vs.toArray T (0,0))
theorem Bx.lt (h:Bx T w g vs):g<w.heap.size:=(Array.getElem?_eq_some_iff.1 h).1
theorem Bx.cell {T:an}{w:O}{g:Nat}{vs:List W}(h:Bx T w g vs){i:Nat}{u:W}(a:vs[i]? =U u):w.cell? ⟨g,i,none⟩=U u:=by
 rw[cell_of_row w g i _ _ (0,0) h]
 simpa using a
theorem Bx.ek (h:Bx T w g (a0::a1::a2::bb::bq::bB::bK::bP::bT::bY::b4::r)):w.cell? ⟨g,0,none⟩=U a0/\w.cell? ⟨g,1,none⟩=U a1/\w.cell? ⟨g,2,none⟩=U a2/\w.cell? ⟨g,3,none⟩=U bb/\w.cell? ⟨g,4,none⟩=U bq/\w.cell? ⟨g,5,none⟩=U bB/\w.cell? ⟨g,6,none⟩=U bK/\w.cell? ⟨g,7,none⟩=U bP/\w.cell? ⟨g,8,none⟩=U bT/\w.cell? ⟨g,9,none⟩=U bY/\w.cell? ⟨g,10,none⟩=U b4:=by(repeat' apply And.intro)<;>exact h.cell rfl
theorem Bx.iC (h:Bx T w g (a0::a1::a2::bb::bq::bB::bK::bP::bT::bY::b4::cn::r)):w.cell? ⟨g,0,none⟩=U a0/\w.cell? ⟨g,1,none⟩=U a1/\w.cell? ⟨g,2,none⟩=U a2/\w.cell? ⟨g,3,none⟩=U bb/\w.cell? ⟨g,4,none⟩=U bq/\w.cell? ⟨g,5,none⟩=U bB/\w.cell? ⟨g,6,none⟩=U bK/\w.cell? ⟨g,7,none⟩=U bP/\w.cell? ⟨g,8,none⟩=U bT/\w.cell? ⟨g,9,none⟩=U bY/\w.cell? ⟨g,10,none⟩=U b4/\w.cell? ⟨g,11,none⟩=U cn:=by(repeat' apply And.intro)<;>exact h.cell rfl
theorem Bx.c8 (h:Bx T w g (a0::a1::a2::bb::bq::bB::bK::bP::bT::bY::b4::cn::cN::cO::r)):w.cell? ⟨g,0,none⟩=U a0/\w.cell? ⟨g,1,none⟩=U a1/\w.cell? ⟨g,2,none⟩=U a2/\w.cell? ⟨g,3,none⟩=U bb/\w.cell? ⟨g,4,none⟩=U bq/\w.cell? ⟨g,5,none⟩=U bB/\w.cell? ⟨g,6,none⟩=U bK/\w.cell? ⟨g,7,none⟩=U bP/\w.cell? ⟨g,8,none⟩=U bT/\w.cell? ⟨g,9,none⟩=U bY/\w.cell? ⟨g,10,none⟩=U b4/\w.cell? ⟨g,11,none⟩=U cn/\w.cell? ⟨g,12,none⟩=U cN/\w.cell? ⟨g,13,none⟩=U cO:=by(repeat' apply And.intro)<;>exact h.cell rfl
theorem Bx.lu (h:Bx T w g (a0::a1::a2::bb::bq::bB::bK::bP::bT::bY::b4::cn::cN::cO::da::r)):w.cell? ⟨g,0,none⟩=U a0/\w.cell? ⟨g,1,none⟩=U a1/\w.cell? ⟨g,2,none⟩=U a2/\w.cell? ⟨g,3,none⟩=U bb/\w.cell? ⟨g,4,none⟩=U bq/\w.cell? ⟨g,5,none⟩=U bB/\w.cell? ⟨g,6,none⟩=U bK/\w.cell? ⟨g,7,none⟩=U bP/\w.cell? ⟨g,8,none⟩=U bT/\w.cell? ⟨g,9,none⟩=U bY/\w.cell? ⟨g,10,none⟩=U b4/\w.cell? ⟨g,11,none⟩=U cn/\w.cell? ⟨g,12,none⟩=U cN/\w.cell? ⟨g,13,none⟩=U cO/\w.cell? ⟨g,14,none⟩=U da:=by(repeat' apply And.intro)<;>exact h.cell rfl
theorem Bx.dg (h:Bx T w g (a0::a1::a2::bb::bq::bB::bK::bP::bT::bY::b4::cn::cN::cO::da::dy::dz::r)):w.cell? ⟨g,0,none⟩=U a0/\w.cell? ⟨g,1,none⟩=U a1/\w.cell? ⟨g,2,none⟩=U a2/\w.cell? ⟨g,3,none⟩=U bb/\w.cell? ⟨g,4,none⟩=U bq/\w.cell? ⟨g,5,none⟩=U bB/\w.cell? ⟨g,6,none⟩=U bK/\w.cell? ⟨g,7,none⟩=U bP/\w.cell? ⟨g,8,none⟩=U bT/\w.cell? ⟨g,9,none⟩=U bY/\w.cell? ⟨g,10,none⟩=U b4/\w.cell? ⟨g,11,none⟩=U cn/\w.cell? ⟨g,12,none⟩=U cN/\w.cell? ⟨g,13,none⟩=U cO/\w.cell? ⟨g,14,none⟩=U da/\w.cell? ⟨g,15,none⟩=U dy/\w.cell? ⟨g,16,none⟩=U dz:=by(repeat' apply And.intro)<;>exact h.cell rfl
theorem Bx.qA (h:Bx T w g (a0::a1::a2::bb::bq::bB::bK::bP::bT::bY::b4::cn::cN::cO::da::dy::dz::er::r)):w.cell? ⟨g,0,none⟩=U a0/\w.cell? ⟨g,1,none⟩=U a1/\w.cell? ⟨g,2,none⟩=U a2/\w.cell? ⟨g,3,none⟩=U bb/\w.cell? ⟨g,4,none⟩=U bq/\w.cell? ⟨g,5,none⟩=U bB/\w.cell? ⟨g,6,none⟩=U bK/\w.cell? ⟨g,7,none⟩=U bP/\w.cell? ⟨g,8,none⟩=U bT/\w.cell? ⟨g,9,none⟩=U bY/\w.cell? ⟨g,10,none⟩=U b4/\w.cell? ⟨g,11,none⟩=U cn/\w.cell? ⟨g,12,none⟩=U cN/\w.cell? ⟨g,13,none⟩=U cO/\w.cell? ⟨g,14,none⟩=U da/\w.cell? ⟨g,15,none⟩=U dy/\w.cell? ⟨g,16,none⟩=U dz/\w.cell? ⟨g,17,none⟩=U er:=by(repeat' apply And.intro)<;>exact h.cell rfl
theorem Bx.wk (h:Bx T w g (a0::a1::a2::bb::bq::bB::bK::bP::bT::bY::b4::cn::cN::cO::da::dy::dz::er::fw::fx::fy::fz::fA::r)):w.cell? ⟨g,0,none⟩=U a0/\w.cell? ⟨g,1,none⟩=U a1/\w.cell? ⟨g,2,none⟩=U a2/\w.cell? ⟨g,3,none⟩=U bb/\w.cell? ⟨g,4,none⟩=U bq/\w.cell? ⟨g,5,none⟩=U bB/\w.cell? ⟨g,6,none⟩=U bK/\w.cell? ⟨g,7,none⟩=U bP/\w.cell? ⟨g,8,none⟩=U bT/\w.cell? ⟨g,9,none⟩=U bY/\w.cell? ⟨g,10,none⟩=U b4/\w.cell? ⟨g,11,none⟩=U cn/\w.cell? ⟨g,12,none⟩=U cN/\w.cell? ⟨g,13,none⟩=U cO/\w.cell? ⟨g,14,none⟩=U da/\w.cell? ⟨g,15,none⟩=U dy/\w.cell? ⟨g,16,none⟩=U dz/\w.cell? ⟨g,17,none⟩=U er/\w.cell? ⟨g,18,none⟩=U fw/\w.cell? ⟨g,19,none⟩=U fx/\w.cell? ⟨g,20,none⟩=U fy/\w.cell? ⟨g,21,none⟩=U fz/\w.cell? ⟨g,22,none⟩=U fA:=by(repeat' apply And.intro)<;>exact h.cell rfl
theorem Bx.wm (h:Bx T w g (a0::a1::a2::bb::bq::bB::bK::bP::bT::bY::b4::cn::cN::cO::da::dy::dz::er::fw::fx::fy::fz::fA::hv::hx::hy::r)):w.cell? ⟨g,0,none⟩=U a0/\w.cell? ⟨g,1,none⟩=U a1/\w.cell? ⟨g,2,none⟩=U a2/\w.cell? ⟨g,3,none⟩=U bb/\w.cell? ⟨g,4,none⟩=U bq/\w.cell? ⟨g,5,none⟩=U bB/\w.cell? ⟨g,6,none⟩=U bK/\w.cell? ⟨g,7,none⟩=U bP/\w.cell? ⟨g,8,none⟩=U bT/\w.cell? ⟨g,9,none⟩=U bY/\w.cell? ⟨g,10,none⟩=U b4/\w.cell? ⟨g,11,none⟩=U cn/\w.cell? ⟨g,12,none⟩=U cN/\w.cell? ⟨g,13,none⟩=U cO/\w.cell? ⟨g,14,none⟩=U da/\w.cell? ⟨g,15,none⟩=U dy/\w.cell? ⟨g,16,none⟩=U dz/\w.cell? ⟨g,17,none⟩=U er/\w.cell? ⟨g,18,none⟩=U fw/\w.cell? ⟨g,19,none⟩=U fx/\w.cell? ⟨g,20,none⟩=U fy/\w.cell? ⟨g,21,none⟩=U fz/\w.cell? ⟨g,22,none⟩=U fA/\w.cell? ⟨g,23,none⟩=U hv/\w.cell? ⟨g,24,none⟩=U hx/\w.cell? ⟨g,25,none⟩=U hy:=by(repeat' apply And.intro)<;>exact h.cell rfl
theorem Bx.wo {lX lY lZ l0 l6 l7 l8 l9 ma mb mc me:W}(h:Bx T w g (a0::a1::a2::bb::bq::bB::bK::bP::bT::bY::b4::cn::cN::cO::da::dy::dz::er::fw::fx::fy::fz::fA::hv::hx::hy::lX::lY::lZ::l0::l6::l7::l8::l9::ma::mb::mc::me::r)):w.cell? ⟨g,0,none⟩=U a0/\w.cell? ⟨g,1,none⟩=U a1/\w.cell? ⟨g,2,none⟩=U a2/\w.cell? ⟨g,3,none⟩=U bb/\w.cell? ⟨g,4,none⟩=U bq/\w.cell? ⟨g,5,none⟩=U bB/\w.cell? ⟨g,6,none⟩=U bK/\w.cell? ⟨g,7,none⟩=U bP/\w.cell? ⟨g,8,none⟩=U bT/\w.cell? ⟨g,9,none⟩=U bY/\w.cell? ⟨g,10,none⟩=U b4/\w.cell? ⟨g,11,none⟩=U cn/\w.cell? ⟨g,12,none⟩=U cN/\w.cell? ⟨g,13,none⟩=U cO/\w.cell? ⟨g,14,none⟩=U da/\w.cell? ⟨g,15,none⟩=U dy/\w.cell? ⟨g,16,none⟩=U dz/\w.cell? ⟨g,17,none⟩=U er/\w.cell? ⟨g,18,none⟩=U fw/\w.cell? ⟨g,19,none⟩=U fx/\w.cell? ⟨g,20,none⟩=U fy/\w.cell? ⟨g,21,none⟩=U fz/\w.cell? ⟨g,22,none⟩=U fA/\w.cell? ⟨g,23,none⟩=U hv/\w.cell? ⟨g,24,none⟩=U hx/\w.cell? ⟨g,25,none⟩=U hy/\w.cell? ⟨g,26,none⟩=U lX/\w.cell? ⟨g,27,none⟩=U lY/\w.cell? ⟨g,28,none⟩=U lZ/\w.cell? ⟨g,29,none⟩=U l0/\w.cell? ⟨g,30,none⟩=U l6/\w.cell? ⟨g,31,none⟩=U l7/\w.cell? ⟨g,32,none⟩=U l8/\w.cell? ⟨g,33,none⟩=U l9/\w.cell? ⟨g,34,none⟩=U ma/\w.cell? ⟨g,35,none⟩=U mb/\w.cell? ⟨g,36,none⟩=U mc/\w.cell? ⟨g,37,none⟩=U me:=by(repeat' apply And.intro)<;>exact h.cell rfl
def Cz (w:O)(g:Nat):Nat->List W->Prop
 |_,[]=>True
 |f,[m]=>w.cell? ⟨g,f,none⟩=U m
 |f,m::A::C=>w.cell? ⟨g,f,none⟩=U m/\Cz w g (f+1) (A::C)
theorem oB {w:O}{g:Nat}:∀(us:List W) (i:Nat),(∀(j:Nat) (v:W),us[j]? =U v->w.cell? ⟨g,i+j,none⟩=U v)->Cz w g i us
 |[],_,_=>trivial
 |[v],i,f=>f 0 v rfl
 |v::m::A,i,f=>⟨f 0 v rfl,oB (m::A) (i+1) (λj b a=>by
  have:=f (j+1) b (by simpa using a)
  rwa [show i+(j+1)=i+1+j from by omega]at this)⟩
theorem Bx.cy (h:Bx T w g vs)(i n:Nat):Cz w g i ((vs.drop i).take n):=oB _ _ λj v a=>by
 have b:j<n:=by
  have:=(List.getElem?_eq_some_iff.1 a).1;simp at this;omega
 rw[List.getElem?_take_of_lt b,List.getElem?_drop]at a;exact h.cell a
theorem Bx.cz (h:Bx T w g vs):Cz w g 0 vs:=oB _ _ λj v a=>by
 rw[Nat.zero_add];exact h.cell a
theorem Bx.c1 (h:Bx T w g [a]):w.cell? ⟨g,0,none⟩=U a:=h.cell rfl
theorem Bx.c2 (h:Bx T w g [a,b]):w.cell? ⟨g,0,none⟩=U a/\w.cell? ⟨g,1,none⟩=U b:=⟨h.cell rfl,h.cell rfl⟩
theorem Bx.c3 (h:Bx T w g [a,b,c]):w.cell? ⟨g,0,none⟩=U a/\w.cell? ⟨g,1,none⟩=U b/\w.cell? ⟨g,2,none⟩=U c:=⟨h.cell rfl,h.cell rfl,h.cell rfl⟩
theorem Bx.c4 (h:Bx T w g [a,b,c,d]):w.cell? ⟨g,0,none⟩=U a/\w.cell? ⟨g,1,none⟩=U b/\w.cell? ⟨g,2,none⟩=U c/\w.cell? ⟨g,3,none⟩=U d:=⟨h.cell rfl,h.cell rfl,h.cell rfl,h.cell rfl⟩
theorem Bx.c5 (h:Bx T w g [a,b,c,d,e]):w.cell? ⟨g,0,none⟩=U a/\w.cell? ⟨g,1,none⟩=U b/\w.cell? ⟨g,2,none⟩=U c/\w.cell? ⟨g,3,none⟩=U d/\w.cell? ⟨g,4,none⟩=U e:=⟨h.cell rfl,h.cell rfl,h.cell rfl,h.cell rfl,h.cell rfl⟩
theorem Bx.c6 {f:W}(h:Bx T w g [a,b,c,d,e,f]):w.cell? ⟨g,0,none⟩=U a/\w.cell? ⟨g,1,none⟩=U b/\w.cell? ⟨g,2,none⟩=U c/\w.cell? ⟨g,3,none⟩=U d/\w.cell? ⟨g,4,none⟩=U e/\w.cell? ⟨g,5,none⟩=U f:=⟨h.cell rfl,h.cell rfl,h.cell rfl,h.cell rfl,h.cell rfl,h.cell rfl⟩
theorem Bx.free (h:Bx T w g vs)(i:Nat):w.frozen? ⟨g,i,none⟩=false:=by
 unfold Bx at h;simp[World.frozen?,h]
theorem Bx.set {T:an}{w:O}{g:Nat}{vs:List W}(h:Bx T w g vs)(i:Nat)(u:W):Bx T (w.setCell ⟨g,i,none⟩ u) g (vs.set i u):=by
 unfold Bx at h|-;simp only[ag,Array.getElem?_modify,h];simp
theorem Bx.us (h:Bx T w g vs)(i:Nat)(u:W)(aM:V w0 w)(a:w0.heap.size<=g:=by omega):V w0 (w.setCell ⟨g,i,none⟩ u):=aM.setCell (p:=⟨g,i,none⟩) a u
theorem Bx.up (h:Bx T w g vs)(a:V w ab):Bx T ab g vs:=(a.heap h.lt).trans h
theorem Bx.fa (h:Bx T w g vs)(o:Obj)(i:Nat):(w.alloc o).frozen? ⟨g,i,none⟩=false:=(h.up ((V.refl w).alloc o)).free i
theorem Bx.eE (h:Bx T w g vs)(o o':Obj)(i:Nat):((w.alloc o).alloc o').frozen? ⟨g,i,none⟩=false:=(h.up (((V.refl w).alloc o).alloc o')).free i
def Bx.d11 {T:an}{w:O}{g:Nat}{a0 a1 a2 bb bq bB bK bP bT bY b4:W}{r:List W}(h:Bx T w g (a0::a1::a2::bb::bq::bB::bK::bP::bT::bY::b4::r))(o:Obj):=(h.up ((V.refl w).alloc o)).ek
def Bx.d12 {T:an}{w:O}{g:Nat}{a0 a1 a2 bb bq bB bK bP bT bY b4 cn:W}{r:List W}(h:Bx T w g (a0::a1::a2::bb::bq::bB::bK::bP::bT::bY::b4::cn::r))(o:Obj):=(h.up ((V.refl w).alloc o)).iC
def Bx.d14 {T:an}{w:O}{g:Nat}{a0 a1 a2 bb bq bB bK bP bT bY b4 cn cN cO:W}{r:List W}(h:Bx T w g (a0::a1::a2::bb::bq::bB::bK::bP::bT::bY::b4::cn::cN::cO::r))(o:Obj):=(h.up ((V.refl w).alloc o)).c8
def Bx.d15 {T:an}{w:O}{g:Nat}{a0 a1 a2 bb bq bB bK bP bT bY b4 cn cN cO da:W}{r:List W}(h:Bx T w g (a0::a1::a2::bb::bq::bB::bK::bP::bT::bY::b4::cn::cN::cO::da::r))(o:Obj):=(h.up ((V.refl w).alloc o)).lu
def Bx.d17 {T:an}{w:O}{g:Nat}{a0 a1 a2 bb bq bB bK bP bT bY b4 cn cN cO da dy dz:W}{r:List W}(h:Bx T w g (a0::a1::a2::bb::bq::bB::bK::bP::bT::bY::b4::cn::cN::cO::da::dy::dz::r))(o:Obj):=(h.up ((V.refl w).alloc o)).dg
def Bx.d18 {T:an}{w:O}{g:Nat}{a0 a1 a2 bb bq bB bK bP bT bY b4 cn cN cO da dy dz er:W}{r:List W}(h:Bx T w g (a0::a1::a2::bb::bq::bB::bK::bP::bT::bY::b4::cn::cN::cO::da::dy::dz::er::r))(o:Obj):=(h.up ((V.refl w).alloc o)).qA
def Bx.d23 {T:an}{w:O}{g:Nat}{a0 a1 a2 bb bq bB bK bP bT bY b4 cn cN cO da dy dz er fw fx fy fz fA:W}{r:List W}(h:Bx T w g (a0::a1::a2::bb::bq::bB::bK::bP::bT::bY::b4::cn::cN::cO::da::dy::dz::er::fw::fx::fy::fz::fA::r))(o:Obj):=(h.up ((V.refl w).alloc o)).wk
def Bx.d26 {T:an}{w:O}{g:Nat}{a0 a1 a2 bb bq bB bK bP bT bY b4 cn cN cO da dy dz er fw fx fy fz fA hv hx hy:W}{r:List W}(h:Bx T w g (a0::a1::a2::bb::bq::bB::bK::bP::bT::bY::b4::cn::cN::cO::da::dy::dz::er::fw::fx::fy::fz::fA::hv::hx::hy::r))(o:Obj):=(h.up ((V.refl w).alloc o)).wm
def Bx.d38 {T:an}{w:O}{g:Nat}{a0 a1 a2 bb bq bB bK bP bT bY b4 cn cN cO da dy dz er fw fx fy fz fA hv hx hy lX lY lZ l0 l6 l7 l8 l9 ma mb mc me:W}{r:List W}(h:Bx T w g (a0::a1::a2::bb::bq::bB::bK::bP::bT::bY::b4::cn::cN::cO::da::dy::dz::er::fw::fx::fy::fz::fA::hv::hx::hy::lX::lY::lZ::l0::l6::l7::l8::l9::ma::mb::mc::me::r))(o:Obj):=(h.up ((V.refl w).alloc o)).wo
instance Bx.bW {T:an} {w ab:O} {g:Nat} {vs:List W}:Lu (V w ab) (Bx T w g vs) (Bx T ab g vs):=bu λu h=>h.up u
theorem Bx.new (T:an)(w:O)(vs:List W):Bx T (w.alloc (ao vs.toArray T)) w.heap.size vs:=heap_alloc_new w _
theorem Bx.ck (h:Bx T w g vs){p:am}(a:g≠p.block)(u:W):Bx T (w.setCell p u) g vs:=(Below.heap_setCell w p u g a).trans h
theorem Bx.fr {b:Nat}(h:Bx T w b vs)(g i:Nat)(u:W)(a:b≠g:=by(try dsimp only);omega):Bx T (w.setCell ⟨g,i,none⟩ u) b vs:=h.ck (p:=⟨g,i,none⟩) a u
theorem f6 (T S:an)(w:O)(vs us:List W):Bx T ((w.alloc (ao vs.toArray T)).alloc (ao us.toArray S)) w.heap.size vs/\Bx S ((w.alloc (ao vs.toArray T)).alloc (ao us.toArray S)) (w.heap.size+1) us:=by
 have a:(w.alloc (ao vs.toArray T)).heap.size=w.heap.size+1:=by simp
 exact⟨(Bx.new T w vs).up ((V.refl _).alloc _),by rw[<-a];exact Bx.new S _ us⟩
theorem zk (T S R:an)(w:O)(vs us xs:List W):
 Bx T (((w.alloc (ao vs.toArray T)).alloc (ao us.toArray S)).alloc (ao xs.toArray R)) w.heap.size vs/\Bx S (((w.alloc (ao vs.toArray T)).alloc (ao us.toArray S)).alloc (ao xs.toArray R)) (w.heap.size+1) us/\
 Bx R (((w.alloc (ao vs.toArray T)).alloc (ao us.toArray S)).alloc (ao xs.toArray R)) (w.heap.size+1+1) xs:=by
 obtain⟨b,c⟩:=f6 T S w vs us;have a:((w.alloc (ao vs.toArray T)).alloc (ao us.toArray S)).heap.size=w.heap.size+1+1:=by simp
 exact⟨b.up ((V.refl _).alloc _),c.up ((V.refl _).alloc _),by rw[<-a];exact Bx.new R _ xs⟩
theorem rX (T S R a:an)(w:O)(vs us xs ys:List W):
 Bx T ((((w.alloc (ao vs.toArray T)).alloc (ao us.toArray S)).alloc (ao xs.toArray R)).alloc (ao ys.toArray a)) w.heap.size vs/\Bx S ((((w.alloc (ao vs.toArray T)).alloc (ao us.toArray S)).alloc (ao xs.toArray R)).alloc (ao ys.toArray a)) (w.heap.size+1) us/\
 Bx R ((((w.alloc (ao vs.toArray T)).alloc (ao us.toArray S)).alloc (ao xs.toArray R)).alloc (ao ys.toArray a)) (w.heap.size+1+1) xs/\Bx a ((((w.alloc (ao vs.toArray T)).alloc (ao us.toArray S)).alloc (ao xs.toArray R)).alloc (ao ys.toArray a)) (w.heap.size+1+1+1) ys:=by
 obtain⟨c,d,e⟩:=zk T S R w vs us xs;have b:(((w.alloc (ao vs.toArray T)).alloc (ao us.toArray S)).alloc (ao xs.toArray R)).heap.size=w.heap.size+1+1+1:=by simp
 exact⟨c.up ((V.refl _).alloc _),d.up ((V.refl _).alloc _),e.up ((V.refl _).alloc _),by rw[<-b];exact Bx.new a _ ys⟩
def dA:W->Prop
 |H a7 _=>False
 |_=>True
theorem Ws.ck (h:Ws w v l)(hb:Bx T w g cs)(q:∀c∈cs,dA c)(i:Nat)(x:W):Ws (w.setCell ⟨g,i,none⟩ x) v l:=by
 obtain⟨k,c,h1,h2,m,n,p⟩:=h;refine⟨k,c,h1,h2,m,n,λf=> ?_⟩;obtain⟨b,o,e,t,d⟩:=p f
 have z:b≠g:=by
  rintro rfl;have a:=d 0 ((l.map wv)[0]) (aT f);rw[cell_of_row w b _ _ _ (0,0) hb]at a;have y:=List.mem_of_getElem? (by simpa using a:cs[o]? =_);have:=q _ (by simpa using y);exact this
 refine⟨b,o,e,by simpa[ag]using t,λj u s=> ?_⟩;rw[<-d j u s];exact World.cell?_setCell_other w _ _ x (λr=>by injection r with h1 _;exact z h1.symm)
def Kw (w a:O):Prop:=w.heap.size<=a.heap.size/\ ∀(p:am) (b:Int),w.cell? p=U (H a7 b)->a.cell? p=U (H a7 b)
theorem Kw.refl (w:O):Kw w w:=⟨a8 _,λ_ _ h=>h⟩
theorem Kw.trans {a b c:O}(h:Kw a b)(k:Kw b c):Kw a c:=⟨aQ h.1 k.1,λp x d=>k.2 p x (h.2 p x d)⟩
theorem V.kw (h:V w ab):Kw w ab:=⟨h.size,λp x a=>(h.cell (World.block_lt_of_cell? w _ a)).trans a⟩
theorem Kw.store (hb:Bx T w g cs)(b:cs[i]? =U c)(e:dA c)(x:W):Kw w (w.setCell ⟨g,i,none⟩ x):=by
 refine⟨by simp[ag],λp y a=> ?_⟩;refine(World.cell?_setCell_other w _ p x (λd=> ?_)).trans a;subst d;rw[hb.cell b]at a;cases a;exact e
theorem Ws.kw (h:Ws w v l)(d:Kw w ab):Ws ab v l:=by
 obtain⟨f,c,h1,h2,g,i,k⟩:=h;refine⟨f,c,h1,h2,g,i,λn=> ?_⟩;obtain⟨b,o,e,p,m⟩:=k n;refine⟨b,o,e,Nat.lt_of_lt_of_le p d.1,λj u a=> ?_⟩;have q:=m j u a;rw[List.getElem?_map,Option.map_eq_some_iff]at a;obtain⟨x,_,rfl⟩:=a;exact d.2 _ _ q
instance Ws.jC {w ab:O} {v:W} {l:List Nat}:Lu (Kw w ab) (Ws w v l) (Ws ab v l):=bu λu h=>h.kw u
theorem gN (h:V w ab)(row:Option Nat):w.grownBy ab row:=⟨h.os,h.tape,h.output,h.size,λk a _=>h.block k a⟩
def f7:W->Bool
 |H a7 _=>false
 |_=>true
theorem zm (h:f7 v=true):dA v:=by
 unfold f7 at h;unfold dA
 split<;>simp_all
structure Bs (T:an) (g:Nat) (w ab:O) (old new:List W):Prop where
 old:Bx T w g old
 new:Bx T ab g new
 kw:Kw w ab
 gr:w.grownBy ab (U g)
 ck:∀{S:an} {bI:Nat} {vs:List W},bI≠g->Bx S w bI vs->Bx S ab bI vs
 jk:∀{w0:O},V w0 w->w0.heap.size<=g->V w0 ab
def jl (w:O)(g:Nat):Nat->List W->O
 |_,[]=>w
 |f,m::A=>jl (w.setCell ⟨g,f,none⟩ m) g (f+1) A
def f8:Nat->List W->List W->List W
 |_,[],f=>f
 |m,A::C,f=>f8 (m+1) C (f.set m A)
theorem dK {T:an}{g:Nat}:∀(cs:List W) (i:Nat) {w:O} {old:List W},Bx T w g old->((old.drop i).take cs.length).all f7=true->i+cs.length<=old.length->Bs T g w (jl w g i cs) old (f8 i cs old)
 |[],i,w,old,hb,_,_=>⟨hb,hb,Kw.refl w,gN (V.refl w) _,λ_ b=>b,λb _=>b⟩
 |c::cs,i,w,old,hb,f,A=>by
  simp only[List.length_cons]at f A;have m:i<old.length:=by omega
  have e:(old.drop i).take (cs.length+1)=old[i]::((old.drop (i+1)).take cs.length):=by rw[List.drop_eq_getElem_cons m,List.take_succ_cons]
  rw[e,List.all_cons,Bool.and_eq_true]at f;have o:=hb.set i c
  have ih:=dK cs (i+1) (w:=w.setCell ⟨g,i,none⟩ c) (old:=old.set i c) o (by
   rw[List.drop_set_of_lt (by omega)];exact f.2) (by simp;omega)
  have kw:Kw w (w.setCell ⟨g,i,none⟩ c):=Kw.store hb (aT m) (zm f.1) c;refine⟨hb,ih.new,kw.trans ih.kw,?_,λn b=>ih.ck n (b.ck (p:=⟨g,i,none⟩) n c),λq l=>ih.jk (q.setCell (p:=⟨g,i,none⟩) l c) l⟩;have a:w.grownBy (w.setCell ⟨g,i,none⟩ c) (U g):=⟨rfl,rfl,rfl,by simp[ag],λk j d=>Below.heap_setCell _ _ _ _ (by simp;exact λe=>d (by rw[e]))⟩;exact⟨ih.gr.os.trans a.os,ih.gr.tape.trans a.tape,ih.gr.output.trans a.output,aQ a.size ih.gr.size,λk j d=>(ih.gr.block k (Nat.lt_of_lt_of_le j a.size) d).trans (a.block k j d)⟩
theorem Bx.bs {new:List W}(h:Bx S w bI vs)(b:Bs T g w ab old new)(a:bI≠g:=by omega):Bx S ab bI vs:=b.ck a h
theorem V.bs {new:List W}(h:V w0 w)(b:Bs T g w ab old new)(a:w0.heap.size<=g:=by omega):V w0 ab:=b.jk h a
theorem aC (e:w.alloc (ao x.toArray T)=aD):V w aD/\Bx T aD w.heap.size x:=by
 subst e;exact⟨(V.refl w).alloc _,Bx.new T w x⟩
theorem br {y:List W}(e:(w.alloc (ao x.toArray T)).alloc (ao y.toArray S)=aD):V w aD/\Bx T aD (w.heap.size) x/\Bx S aD (w.heap.size+1) y:=by
 subst e;have a:=aC (w:=w) (T:=T) (x:=x) (e:=rfl);have e:(w.alloc (ao x.toArray T)).heap.size=w.heap.size+1:=by simp
 exact⟨a.1.alloc _,a.2.up ((V.refl _).alloc _),by rw[<-e];exact Bx.new S _ y⟩
theorem dm {y z:List W}(e:((w.alloc (ao x.toArray T)).alloc (ao y.toArray S)).alloc (ao z.toArray R)=aD):V w aD/\Bx T aD (w.heap.size) x/\Bx S aD (w.heap.size+1) y/\Bx R aD (w.heap.size+1+1) z:=by
 subst e;have a:=br (w:=w) (T:=T) (x:=x) (S:=S) (y:=y) (e:=rfl);have e:((w.alloc (ao x.toArray T)).alloc (ao y.toArray S)).heap.size=w.heap.size+1+1:=by simp
 exact⟨a.1.alloc _,a.2.1.up ((V.refl _).alloc _),a.2.2.up ((V.refl _).alloc _),by rw[<-e];exact Bx.new R _ z⟩
theorem dn {y z u:List W}(e:(((w.alloc (ao x.toArray T)).alloc (ao y.toArray S)).alloc (ao z.toArray R)).alloc (ao u.toArray Q)=aD):V w aD/\Bx T aD (w.heap.size) x/\Bx S aD (w.heap.size+1) y/\Bx R aD (w.heap.size+1+1) z/\Bx Q aD (w.heap.size+1+1+1) u:=by
 subst e;have a:=dm (w:=w) (T:=T) (x:=x) (S:=S) (y:=y) (R:=R) (z:=z) (e:=rfl);have e:(((w.alloc (ao x.toArray T)).alloc (ao y.toArray S)).alloc (ao z.toArray R)).heap.size=w.heap.size+1+1+1:=by simp
 exact⟨a.1.alloc _,a.2.1.up ((V.refl _).alloc _),a.2.2.1.up ((V.refl _).alloc _),a.2.2.2.up ((V.refl _).alloc _),by rw[<-e];exact Bx.new Q _ u⟩
theorem zn {P:an}{y z u v:List W}(e:((((w.alloc (ao x.toArray T)).alloc (ao y.toArray S)).alloc (ao z.toArray R)).alloc (ao u.toArray Q)).alloc (ao v.toArray P)=aD):V w aD/\Bx T aD (w.heap.size) x/\Bx S aD (w.heap.size+1) y/\Bx R aD (w.heap.size+1+1) z/\Bx Q aD (w.heap.size+1+1+1) u/\Bx P aD (w.heap.size+1+1+1+1) v:=by
 subst e;have a:=dn (w:=w) (T:=T) (x:=x) (S:=S) (y:=y) (R:=R) (z:=z) (Q:=Q) (u:=u) (e:=rfl);have e:((((w.alloc (ao x.toArray T)).alloc (ao y.toArray S)).alloc (ao z.toArray R)).alloc (ao u.toArray Q)).heap.size=w.heap.size+1+1+1+1:=by simp
 exact⟨a.1.alloc _,a.2.1.up ((V.refl _).alloc _),a.2.2.1.up ((V.refl _).alloc _),a.2.2.2.1.up ((V.refl _).alloc _),a.2.2.2.2.up ((V.refl _).alloc _),by rw[<-e];exact Bx.new P _ v⟩
theorem b3 (e:w.alloc (ao x.toArray T)=aD)(a:w.heap.size=g):V w aD/\Bx T aD g x:=a▸aC e
theorem Bx.k (h:Bx T w g vs)(i:Nat)(a:vs[i]? =U u:=by rfl):w.cell? ⟨g,i,none⟩=U u:=h.cell a
theorem eJ {new:List W}(h:Bx T w g vs)(e:w.setCell ⟨g,i,none⟩ x0=aD)(b:vs.set (i) x0=new:=by(simp only[f8,List.set_cons_zero,List.set_cons_succ];rfl))(ha:((vs.drop i).take 1).all f7=true:=by rfl)(a:i+1<=vs.length:=by exact Nat.le_of_ble_eq_true rfl):Bs T g w aD vs new:=by
 subst e b;exact dK [x0] i h ha a
theorem dp {new:List W}(h:Bx T w g vs)(e:(w.setCell ⟨g,i,none⟩ x0).setCell ⟨g,i+1,none⟩ x1=aD)(b:(vs.set (i) x0).set (i+1) x1=new:=by(simp only[f8,List.set_cons_zero,List.set_cons_succ];rfl))(ha:((vs.drop i).take 2).all f7=true:=by rfl)(a:i+2<=vs.length:=by exact Nat.le_of_ble_eq_true rfl):Bs T g w aD vs new:=by
 subst e b;exact dK [x0,x1] i h ha a
theorem dh {new:List W}(h:Bx T w g vs)(e:((w.setCell ⟨g,i,none⟩ x0).setCell ⟨g,i+1,none⟩ x1).setCell ⟨g,i+1+1,none⟩ x2=aD)(b:((vs.set (i) x0).set (i+1) x1).set (i+1+1) x2=new:=by(simp only[f8,List.set_cons_zero,List.set_cons_succ];rfl))(ha:((vs.drop i).take 3).all f7=true:=by rfl)(a:i+3<=vs.length:=by exact Nat.le_of_ble_eq_true rfl):Bs T g w aD vs new:=by
 subst e b;exact dK [x0,x1,x2] i h ha a
theorem bp {new:List W}(h:Bx T w g vs)(e:(((w.setCell ⟨g,i,none⟩ x0).setCell ⟨g,i+1,none⟩ x1).setCell ⟨g,i+1+1,none⟩ x2).setCell ⟨g,i+1+1+1,none⟩ x3=aD)(b:(((vs.set (i) x0).set (i+1) x1).set (i+1+1) x2).set (i+1+1+1) x3=new:=by(simp only[f8,List.set_cons_zero,List.set_cons_succ];rfl))(ha:((vs.drop i).take 4).all f7=true:=by rfl)(a:i+4<=vs.length:=by exact Nat.le_of_ble_eq_true rfl):Bs T g w aD vs new:=by
 subst e b;exact dK [x0,x1,x2,x3] i h ha a
theorem e8 {new:List W}(h:Bx T w g vs)(e:((((w.setCell ⟨g,i,none⟩ x0).setCell ⟨g,i+1,none⟩ x1).setCell ⟨g,i+1+1,none⟩ x2).setCell ⟨g,i+1+1+1,none⟩ x3).setCell ⟨g,i+1+1+1+1,none⟩ x4=aD)(b:((((vs.set (i) x0).set (i+1) x1).set (i+1+1) x2).set (i+1+1+1) x3).set (i+1+1+1+1) x4=new:=by(simp only[f8,List.set_cons_zero,List.set_cons_succ];rfl))(ha:((vs.drop i).take 5).all f7=true:=by rfl)(a:i+5<=vs.length:=by exact Nat.le_of_ble_eq_true rfl):Bs T g w aD vs new:=by
 subst e b;exact dK [x0,x1,x2,x3,x4] i h ha a
theorem zo {new:List W}{x5:W}(h:Bx T w g vs)(e:(((((w.setCell ⟨g,i,none⟩ x0).setCell ⟨g,i+1,none⟩ x1).setCell ⟨g,i+1+1,none⟩ x2).setCell ⟨g,i+1+1+1,none⟩ x3).setCell ⟨g,i+1+1+1+1,none⟩ x4).setCell ⟨g,i+1+1+1+1+1,none⟩ x5=aD)(b:(((((vs.set (i) x0).set (i+1) x1).set (i+1+1) x2).set (i+1+1+1) x3).set (i+1+1+1+1) x4).set (i+1+1+1+1+1) x5=new:=by(simp only[f8,List.set_cons_zero,List.set_cons_succ];rfl))(ha:((vs.drop i).take 6).all f7=true:=by rfl)(a:i+6<=vs.length:=by exact Nat.le_of_ble_eq_true rfl):Bs T g w aD vs new:=by
 subst e b;exact dK [x0,x1,x2,x3,x4,x5] i h ha a
theorem Bx.d1 (h:Bx T w g [a0])(o:Obj):(w.alloc o).cell? ⟨g,0,none⟩=U a0:=(h.up ((V.refl w).alloc o)).c1
theorem Bx.d2 (h:Bx T w g [a0,a1])(o:Obj):(w.alloc o).cell? ⟨g,0,none⟩=U a0/\(w.alloc o).cell? ⟨g,1,none⟩=U a1:=(h.up ((V.refl w).alloc o)).c2
theorem Bx.d3 (h:Bx T w g [a0,a1,a2])(o:Obj):(w.alloc o).cell? ⟨g,0,none⟩=U a0/\(w.alloc o).cell? ⟨g,1,none⟩=U a1/\(w.alloc o).cell? ⟨g,2,none⟩=U a2:=(h.up ((V.refl w).alloc o)).c3
theorem Bx.d4 (h:Bx T w g [a0,a1,a2,bb])(o:Obj):(w.alloc o).cell? ⟨g,0,none⟩=U a0/\(w.alloc o).cell? ⟨g,1,none⟩=U a1/\(w.alloc o).cell? ⟨g,2,none⟩=U a2/\(w.alloc o).cell? ⟨g,3,none⟩=U bb:=(h.up ((V.refl w).alloc o)).c4
theorem Bx.d5 (h:Bx T w g [a0,a1,a2,bb,bq])(o:Obj):(w.alloc o).cell? ⟨g,0,none⟩=U a0/\(w.alloc o).cell? ⟨g,1,none⟩=U a1/\(w.alloc o).cell? ⟨g,2,none⟩=U a2/\(w.alloc o).cell? ⟨g,3,none⟩=U bb/\(w.alloc o).cell? ⟨g,4,none⟩=U bq:=(h.up ((V.refl w).alloc o)).c5
theorem Bx.d6 (h:Bx T w g [a0,a1,a2,bb,bq,bB])(o:Obj):(w.alloc o).cell? ⟨g,0,none⟩=U a0/\(w.alloc o).cell? ⟨g,1,none⟩=U a1/\(w.alloc o).cell? ⟨g,2,none⟩=U a2/\(w.alloc o).cell? ⟨g,3,none⟩=U bb/\(w.alloc o).cell? ⟨g,4,none⟩=U bq/\(w.alloc o).cell? ⟨g,5,none⟩=U bB:=(h.up ((V.refl w).alloc o)).c6
theorem V.alloc_drew {a:O}(h:V a w.drew)(o:Obj):V a (w.alloc o).drew:=V.alloc (w:=w.drew) h o
theorem V.dt {a:O}(h:V a w.drew)(o o':Obj):V a ((w.alloc o).alloc o').drew:=V.alloc (w:=w.drew.alloc o) (V.alloc (w:=w.drew) h o) o'
theorem V.skip (h:V (w.alloc o).drew ab):V w.drew ab:=V.trans (b:=w.drew.alloc o) ((V.refl w.drew).alloc o) h
theorem zp {x:W}(h:w.cell? q=U v)(b:g≠q.block):(w.setCell ⟨g,i,none⟩ x).cell? q=U v:=
 (World.cell?_setCell_other w _ q x (λa=>b (by rw[<-a]))).trans h
theorem cf {x:W}(h:w.cell? q=U v)(a:g≠q.block:=by(try dsimp only);omega):(w.setCell ⟨g,i,none⟩ x).cell? q=U v:=zp h a
theorem rY (h:w.drew.cell? q=U v):(w.alloc o).drew.cell? q=U v:=(World.cell?_alloc_lt w o q (World.block_lt_of_cell? w.drew _ h)).trans h
theorem aJ (h:w.drew.cell? q=U v):(w.alloc o).drew.cell? q=U v:=rY h
theorem zq (h:w.drew.cell? q=U v):((w.alloc o).alloc o').drew.cell? q=U v:=rY (w:=w.alloc o) (aJ h)
theorem aK (h:w.drew.cell? q=U v):((w.alloc o).alloc o').drew.cell? q=U v:=zq h
theorem Ws.nH (h:Ws w.drew v l):Ws w v l:=h
theorem gO (e:∀w:O,(ct T).run ae w= .ok true w)(d:∀w:O,(ci T).run ae w= .ok n w)(hb:Bx S w g cs)(j:cs.length=n):
 (loadVar T ⟨g,0,none⟩).run ae w= .ok (af cs.toArray) w:=by
 subst j
 have i:=run_loadCells_list (P:=ae) w ⟨g,0,none⟩ cs (λa k f=>by
  have b:(⟨g,0,none⟩:am).add a=⟨g,a,none⟩:=by unfold Addr.add;by_cases c:a=0<;>simp[c]
  rw[b];exact hb.cell f)
 simp only[loadVar,Sem.run_bind,e,d,i,Result.andThen,if_true,Sem.run_pure]
theorem cl (d:fn.results=#[.cell t T])(e:tmps.getD t undef=az (U ⟨g,0,none⟩))
 (b:∀w:O,(ct T).run ae w= .ok true w)(a:∀w:O,(ci T).run ae w= .ok n w)(hb:Bx S w g cs)(c:cs.length=n):(results fn tmps).run ae w= .ok (af cs.toArray) w:=by
 have:=gO b a hb c;have f:tmps[t]?.getD undef=az (U ⟨g,0,none⟩):=by simpa using e
 simp[results,d,f,this,asAddr]
theorem ia {u:Tmp}(d:fn.results=#[.cell t T,.tmp u])(e:tmps.getD t undef=az (U ⟨g,0,none⟩))
 (b:∀w:O,(ct T).run ae w= .ok true w)(a:∀w:O,(ci T).run ae w= .ok n w)(hb:Bx S w g cs)(c:cs.length=n):(results fn tmps).run ae w= .ok (aY #[af cs.toArray,tmps.getD u undef]) w:=by
 have:=gO b a hb c;have f:tmps[t]?.getD undef=az (U ⟨g,0,none⟩):=by simpa using e
 simp[results,d,f,this,asAddr]
theorem oC {t' u:Tmp}{dw iU:an}{gP:Nat}{e9:List W}(o:fn.results=#[.cell t T,.cell t' dw,.tmp u])(p:tmps.getD t undef=az (U ⟨g,0,none⟩))(q:tmps.getD t' undef=az (U ⟨bI,0,none⟩))
 (i:∀w:O,(ct T).run ae w= .ok true w)(e:∀w:O,(ci T).run ae w= .ok n w)(j:∀w:O,(ct dw).run ae w= .ok true w)(f:∀w:O,(ci dw).run ae w= .ok gP w)(hb:Bx S w g cs)(l:cs.length=n)(k:Bx iU w bI e9)(m:e9.length=gP):
 (results fn tmps).run ae w= .ok (aY #[af cs.toArray,af e9.toArray,tmps.getD u undef]) w:=by
 have c:=gO i e hb l;have d:=gO j f k m;have a:tmps[t]?.getD undef=az (U ⟨g,0,none⟩):=by simpa using p
 have b:tmps[t']?.getD undef=az (U ⟨bI,0,none⟩):=by simpa using q
 simp[results,o,a,b,c,d,asAddr]
theorem hz (w:O):(ct 51).run ae w= .ok true w:=by kernel_rfl
theorem hA (w:O):(ci 51).run ae w= .ok 2 w:=by kernel_rfl
def Wh (w:O)(v:W)(z:Int)(k:Nat):Prop:= ∃b c a,v=af #[J b,c]/\Ws w c a/\E.iv b (E.val a)=z/\a.length<=k
theorem Wh.up {w ab:O}{v:W}{z:Int}{k:Nat}(h:Wh w v z k)(b:V w ab):Wh ab v z k:=by
 obtain⟨s,u,l,h1,h2,a⟩:=h;exact⟨s,u,l,h1,h2.up b,a⟩
instance Wh.bW {w ab:O} {v:W} {z:Int} {k:Nat}:Lu (V w ab) (Wh w v z k) (Wh ab v z k):=bu λu h=>h.up u
theorem Wh.mono {k:Nat}(h:Wh w v z j)(c:j<=k):Wh w v z k:=by
 obtain⟨s,u,l,h1,h2,a,b⟩:=h;exact⟨s,u,l,h1,h2,a,aQ b c⟩
def Zw (w:O)(v:W)(z:Int):Prop:= ∃a,v=af #[J (E.aB z),a]/\Ws w a (E.words z.natAbs)
theorem Zw.up {w ab:O}{v:W}{z:Int}(h:Zw w v z)(a:V w ab):Zw ab v z:=by
 obtain⟨u,h1,h2⟩:=h;exact⟨u,h1,h2.up a⟩
instance Zw.bW {w ab:O} {v:W} {z:Int}:Lu (V w ab) (Zw w v z) (Zw ab v z):=bu λu h=>h.up u
theorem Zw.wh {k:Nat}(h:Zw w v z)(a:E.Lz z k):Wh w v z k:=by
 obtain⟨u,h1,h2⟩:=h;exact⟨_,u,_,h1,h2,by rw[E.bl,E.hZ],a⟩
theorem Zw.mk (h:Ws w u (E.words n))(a:s=E.aB z)(b:z.natAbs=n):Zw w (af #[J s,u]) z:=by
 subst a b;exact⟨u,rfl,h⟩
theorem Wh.lz {k:Nat}(h:Wh w v z k):E.Lz z k:=by
 obtain⟨s,u,l,h1,h2,a,b⟩:=h;subst a;exact E.Lz.iv (aQ (E.cr h2.ok) b)
def g4 (z:Int)(w:O)(e:aO)(b:O):Prop:= ∃a,e=aw a/\Zw b a z/\V w b
theorem fB {a:a6}{p q:W}(f:fn.results=#[.cell t 51])(i:a.tmps.getD t undef=az (U ⟨g,0,none⟩))(e:a.defers=[])
 (h:Zw w (af #[J s,u]) z)(r:Bx 51 w g [p,q])(k:dA p)(nq:dA q)(j:V w0 w)(c:w0.heap.size<=g):
 bodyPost ae fn (g4 z w0) .ret a ((w.setCell ⟨g,0,none⟩ (J s)).setCell ⟨g,1,none⟩ u):=by
 obtain⟨m,b,hw⟩:=h;simp at b;obtain⟨rfl,rfl⟩:=b;have d:Bx 51 (w.setCell ⟨g,0,none⟩ (J (E.aB z))) g [J (E.aB z),q]:=r.set 0 _;have w1:=hw.ck r (by simp[k,nq]) 0 (J (E.aB z));have w2:=w1.ck d (by simp[nq];trivial) 1 u;have l:Bx 51 ((w.setCell ⟨g,0,none⟩ (J (E.aB z))).setCell ⟨g,1,none⟩ u) g [J (E.aB z),u]:=d.set 1 _;exact a4 (cl f i hz hA l rfl) e ⟨_,rfl,⟨u,rfl,w2⟩,(j.setCell (p:=⟨g,0,none⟩) c _).setCell (p:=⟨g,1,none⟩) c _⟩
theorem fb (h:Ws w v (E.words n))(f:(E.words n).length<=100000000000):aj ae 95 #[J s,v] w (g4 (E.iv s n) w):=by
 have b:=G (E.xY s n);obtain⟨a,c,rfl⟩:=h.form;generalize d:(E.words n).length=k at*;have e:=G d;clear d;cases s
 .go_enter func95,ntmps95;go_wp2;exact a4 (v:=af #[J false,D a k c]) (by simp[results,Tryz.results95,go_sem]) rfl ⟨_,rfl,Zw.mk (h.up ((V.refl w).alloc _)) (by rw[b.out];rfl) (E.jY _ _),(V.refl w).alloc _⟩
 .go_enter func95,ntmps95;go_wp2;exact a4 (v:=af #[J (decide (0<k)),D a k c]) (by simp[results,Tryz.results95,go_sem]) rfl ⟨_,rfl,Zw.mk (h.up ((V.refl w).alloc _)) (by rw[b.out];rfl) (E.jY _ _),(V.refl w).alloc _⟩
theorem ke {k:Nat}(h:Wh w v z k)(M:k<=100000000):aj ae 100 #[v] w (g4 z w):=by
 obtain⟨B,Q,y,rfl,c,x,u⟩:=h;have N:=aQ (E.cr c.ok) u;obtain⟨p,s,rfl⟩:=c.form;subst x;go_enter func100,ntmps100;go_wp2_with fail;generalize m:ah (ah w _) _=q at*;obtain⟨a,g,b⟩:=br m;clear m;replace c:=c.up a;have r:=g.c2;have A:=b.c2;obtain⟨d,e⟩:=r;have j:=A;revert a g b c d e;refine bO (V.refl q).drew ?_;intro a g b c d e;have j:=b.c2;have n:=b.free
 go_region_held3(λl=>V w l/\l.cell? ⟨w.heap.size,0,none⟩=U (J B)/\l.cell? ⟨w.heap.size,1,none⟩=U (D p y.length s))
  (first|with_reducible exact⟨a,d,e⟩|with_reducible exact⟨(a.alloc_drew _),(aJ d),(aJ e)⟩|with_reducible exact⟨(a.dt _ _),(aK d),(aK e)⟩|((try simp only[<-World.setCell_drew]);first|with_reducible exact⟨(us (us a)),(cf (cf d)),(cf (cf e))⟩)|go_keep)
  ((first
    |(go_at_call 112
      with_reducible refine(eI c (by omega)).mono ?_
      intro t H o;obtain⟨F,rfl,i,u1⟩:=o.ws;clear o;revert a g b c d e j;refine bS u1 ?_;intro a g b c d e j
      try(replace i:=i.up u1)
      try(replace f:=f.up u1)
      replace n:=b.free;clear u1)
    |(go_at_call 95
      with_reducible refine(fb i (by omega)).mono ?_
      rintro t I ⟨G,rfl,f,u2⟩;revert a g b c d e j;refine bS u2 ?_;intro a g b c d e j
      try(replace i:=i.up u2)
      try(replace f:=f.up u2)
      replace n:=b.free;clear u2;obtain⟨K,rfl,f⟩:=f;obtain⟨C,P,L,rfl⟩:=f.shape)))
 go_wp2;exact fB rfl rfl rfl ⟨_,rfl,f⟩ b trivial trivial a (by omega)
def iV (z:Int)(w:O)(e:aO)(a:O):Prop:=e=aw (H I z)/\V w a
theorem Zw.kw {w ab:O}{v:W}{z:Int}(h:Zw w v z)(a:Kw w ab):Zw ab v z:=by
 obtain⟨u,h1,h2⟩:=h;exact⟨u,h1,h2.kw a⟩
instance Zw.jC {w ab:O} {v:W} {z:Int}:Lu (Kw w ab) (Zw w v z) (Zw ab v z):=bu λu h=>h.kw u
theorem Wh.kw {w ab:O}{v:W}{z:Int}{k:Nat}(h:Wh w v z k)(b:Kw w ab):Wh ab v z k:=by
 obtain⟨s,u,l,h1,h2,a⟩:=h;exact⟨s,u,l,h1,h2.kw b,a⟩
instance Wh.jC {w ab:O} {v:W} {z:Int} {k:Nat}:Lu (Kw w ab) (Wh w v z k) (Wh ab v z k):=bu λu h=>h.kw u
theorem r0 {k:Nat}(h:Wh w v z k)(M:k<=100000000):aj ae 122 #[v] w (g4 (-z) w):=by
 obtain⟨B,Q,y,rfl,c,x,u⟩:=h;have N:=aQ (E.cr c.ok) u;obtain⟨p,s,rfl⟩:=c.form;subst x;rw[<-E.xZ];go_enter func122,ntmps122;go_wp2_with fail;generalize m:ah (ah w _) _=q at*;obtain⟨a,g,b⟩:=br m;clear m;replace c:=c.up a;have r:=g.c2;have A:=b.c2;obtain⟨d,e⟩:=r;have j:=A;revert a g b c d e;refine bO (V.refl q).drew ?_;intro a g b c d e;have j:=b.c2;have n:=b.free
 go_region_held3(λl=>V w l/\l.cell? ⟨w.heap.size,0,none⟩=U (J B)/\l.cell? ⟨w.heap.size,1,none⟩=U (D p y.length s))
  (first|with_reducible exact⟨a,d,e⟩|with_reducible exact⟨(a.alloc_drew _),(aJ d),(aJ e)⟩|with_reducible exact⟨(a.dt _ _),(aK d),(aK e)⟩|((try simp only[<-World.setCell_drew]);first|with_reducible exact⟨(us (us a)),(cf (cf d)),(cf (cf e))⟩)|go_keep)
  ((first
    |(go_at_call 112
      with_reducible refine(eI c (by omega)).mono ?_
      intro t H o;obtain⟨F,rfl,i,u1⟩:=o.ws;clear o;revert a g b c d e j;refine bS u1 ?_;intro a g b c d e j
      try(replace i:=i.up u1)
      try(replace f:=f.up u1)
      replace n:=b.free;clear u1)
    |(go_at_call 95
      with_reducible refine(fb i (by omega)).mono ?_
      rintro t I ⟨G,rfl,f,u2⟩;revert a g b c d e j;refine bS u2 ?_;intro a g b c d e j
      try(replace i:=i.up u2)
      try(replace f:=f.up u2)
      replace n:=b.free;clear u2;obtain⟨K,rfl,f⟩:=f;obtain⟨C,P,L,rfl⟩:=f.shape)))
 go_wp2;exact fB rfl rfl rfl ⟨_,rfl,f⟩ b trivial trivial a (by omega)
theorem kf {k:Nat}(h:Wh w v z j)(H:Wh w u y k)(ab:j<=100000000)(af:k<=100000000):aj ae 71 #[v,u] w (g4 (z*y) w):=by
 obtain⟨P,an,L,rfl,c,K,ag⟩:=h;obtain⟨Q,ao,M,rfl,d,I,al⟩:=H;have ak:=E.g1 (E.cr c.ok) (E.cr d.ok);obtain⟨t,C,rfl⟩:=c.form;obtain⟨ai,F,rfl⟩:=d.form;subst K I;rw[<-E.oe];go_enter func71,ntmps71;go_wp2_with fail;generalize r:ah (ah (ah w _) _) _=x at*;obtain⟨a,m,n,b⟩:=dm r;clear r;replace c:=c.up a;replace d:=d.up a;have A:=m.c2;have B:=n.c2;have N:=b.c2;obtain⟨e,f⟩:=A;obtain⟨g,i⟩:=B;have p:=N;revert a m n b c d e f g i;refine bw (V.refl x).drew ?_;intro a m n b c d e f g i;have p:=b.c2;have s:=b.free
 go_region_held3(λq=>V w q/\q.cell? ⟨w.heap.size,0,none⟩=U (J P)/\q.cell? ⟨w.heap.size,1,none⟩=U (D t L.length C)/\q.cell? ⟨w.heap.size+1,0,none⟩=U (J Q)/\q.cell? ⟨w.heap.size+1,1,none⟩=U (D ai M.length F))
  (first|with_reducible exact⟨a,e,f,g,i⟩|with_reducible exact⟨(a.alloc_drew _),(aJ e),(aJ f),(aJ g),(aJ i)⟩|with_reducible exact⟨(a.dt _ _),(aK e),(aK f),(aK g),(aK i)⟩|((try simp only[<-World.setCell_drew]);first|with_reducible exact⟨(us (us a)),(cf (cf e)),(cf (cf f)),(cf (cf g)),(cf (cf i))⟩)|go_keep)
  ((first
    |(go_at_call 72
      with_reducible refine(jj c d (by omega) (by omega)).mono ?_
      rintro G X ⟨S,rfl,o,u1⟩;revert a m n b c d e f g i p;refine bC u1 ?_;intro a m n b c d e f g i p
      try(replace o:=o.up u1)
      try(replace l:=l.up u1)
      replace s:=b.free;clear u1)
    |(go_at_call 95
      with_reducible refine(fb o (by omega)).mono ?_
      rintro G Y ⟨T,rfl,l,u2⟩;revert a m n b c d e f g i p;refine bC u2 ?_;intro a m n b c d e f g i p
      try(replace o:=o.up u2)
      try(replace l:=l.up u2)
      replace s:=b.free;clear u2;obtain⟨Z,rfl,l⟩:=l;obtain⟨R,am,aa,rfl⟩:=l.shape)))
 go_wp2;exact fB rfl rfl rfl ⟨_,rfl,l⟩ b trivial trivial a (by omega)
theorem g5 {k:Nat}(h:Wh w v z k)(s:k<=100000000):aj ae 55 #[v] w (iV (E.bU z) w):=by
 obtain⟨i,u,g,rfl,a,p,t⟩:=h;obtain⟨q,r,rfl⟩:=a.form;subst p
 by_cases e:E.val g=0
 .have f:Y (decide (E.val g=0)=true):=G (decide_eq_true e);rw[e,E.jh];clear e;go_enter func55,ntmps55;go_wp2_with fail;generalize c:ah w _=j at*;obtain⟨b,d⟩:=aC c;clear c;replace a:=a.up b;have m:=d.c2;go_wp2_with fail
  with_reducible refine(iS a (by omega)).mono ?_
  rintro n l ⟨rfl,rfl⟩;rw[f.out];go_wp2;go_ret;exact⟨rfl,b⟩
 .have f:Y (decide (E.val g=0)=false):=G (decide_eq_false e)
  have o:Y (E.bU (E.iv i (E.val g))=if i then-1 else 1):=G (by
   cases i
   .exact E.iO (by simp[E.iv];omega)
   .exact E.jZ (by simp[E.iv];omega))
  rw[o.out];clear e;cases i
  .skip;go_enter func55,ntmps55;go_wp2_with fail;generalize c:ah w _=j at*;obtain⟨b,d⟩:=aC c;clear c;replace a:=a.up b;have m:=d.c2;go_wp2_with fail
   with_reducible refine(iS a (by omega)).mono ?_
   rintro n l ⟨rfl,rfl⟩;rw[f.out];go_wp2;go_ret;exact⟨rfl,b⟩
  .skip;go_enter func55,ntmps55;go_wp2_with fail;generalize c:ah w _=j at*;obtain⟨b,d⟩:=aC c;clear c;replace a:=a.up b;have m:=d.c2;go_wp2_with fail
   with_reducible refine(iS a (by omega)).mono ?_
   rintro n l ⟨rfl,rfl⟩;rw[f.out];go_wp2;go_ret;exact⟨rfl,b⟩
theorem zr {a b k:Nat}(ha:(E.words a).length<=k)(hb:(E.words b).length<=k):(E.words (E.iM a b)).length<=k:=by
 unfold E.iM
 split
 .exact aQ (E.eS (Nat.sub_le _ _)) hb
 .exact aQ (E.eS (Nat.sub_le _ _)) ha
theorem oD {k:Nat}(h:Wh w v z j)(al:Wh w u y k)(au:j<=90000000)(av:k<=90000000):aj ae 103 #[v,u] w (g4 (z+y) w):=by
 obtain⟨aq,az,F,rfl,c,ao,aw⟩:=h;obtain⟨H,aA,m,rfl,d,an,ay⟩:=al;have ax:=E.ri (m:=90000000) (aQ (E.cr c.ok) (by omega)) (aQ (E.cr d.ok) (by omega));have ar:=zr (k:=90000000) (aQ (E.cr c.ok) (by omega)) (aQ (E.cr d.ok) (by omega));have aa:Y (E.e6 [F,m]=E.val F+E.val m):=G (by simp[E.e6]);obtain⟨af,ag,rfl⟩:=c.form;obtain⟨ai,ak,rfl⟩:=d.form;subst ao an;cases aq<;>cases H
 .rw[<-E.rf];go_enter func103,ntmps103;go_wp2_with fail;generalize t:ah (ah (ah w _) _) _=K at*;obtain⟨b,e,f,a⟩:=dm t;clear t;replace c:=c.up b;replace d:=d.up b;have l:=e.c2;have n:=f.c2;have o:=a.c2;obtain⟨p,q⟩:=l;obtain⟨r,s⟩:=n;have B:=o;revert b e f a c d p q r s;refine bw (V.refl K).drew ?_;intro b e f a c d p q r s
  have B:=a.c2;have Z:=a.free
  go_region_held3(λC=>V w C/\C.cell? ⟨w.heap.size,0,none⟩=U (J false)/\C.cell? ⟨w.heap.size,1,none⟩=U (D af F.length ag)/\C.cell? ⟨w.heap.size+1,0,none⟩=U (J false)/\C.cell? ⟨w.heap.size+1,1,none⟩=U (D ai m.length ak))
   (first|with_reducible exact⟨b,p,q,r,s⟩|with_reducible exact⟨(b.alloc_drew _),(aJ p),(aJ q),(aJ r),(aJ s)⟩|with_reducible exact⟨(b.dt _ _),(aK p),(aK q),(aK r),(aK s)⟩|((try simp only[<-World.setCell_drew]);first|with_reducible exact⟨(us (us b)),(cf (cf p)),(cf (cf q)),(cf (cf r)),(cf (cf s))⟩)|go_keep)
   ((first
     |(go_at_call 135
       with_reducible refine(rA ((rx c.nH d.nH).up (V.refl _).drew) (by simp) (by simp;omega) (by rw[aa.out];omega)).mono ?_
       rintro x P ⟨M,rfl,i,u1⟩;revert b e f a c d p q r s B;refine bC (V.skip u1) ?_;intro b e f a c d p q r s B
       try(replace i:=i.up (V.skip u1))
       try(replace g:=g.up (V.skip u1))
       replace Z:=a.free;clear u1;rw[aa.out]at i)
     |(go_at_call 95
       with_reducible refine(fb i (by omega)).mono ?_
       rintro x Q ⟨N,rfl,g,u2⟩;revert b e f a c d p q r s B;refine bC u2 ?_;intro b e f a c d p q r s B
       try(replace i:=i.up u2)
       try(replace g:=g.up u2)
       replace Z:=a.free;clear u2;obtain⟨R,rfl,g⟩:=g;obtain⟨L,X,S,rfl⟩:=g.shape)))
  go_wp2;exact fB rfl rfl rfl ⟨_,rfl,g⟩ a trivial trivial b (by omega)
 .rw[<-E.rh false true _ _ rfl]
  by_cases A:E.val F<E.val m
  .rw[if_pos A];have I:=G (E.jf A);clear A;go_enter func103,ntmps103;go_wp2_with fail;generalize t:ah (ah (ah w _) _) _=K at*;obtain⟨b,e,f,a⟩:=dm t;clear t;replace c:=c.up b;replace d:=d.up b;have l:=e.c2;have n:=f.c2;have o:=a.c2;go_wp2_with fail
   with_reducible refine(lU c d (by omega) (by omega)).mono ?_
   rintro x P ⟨M,rfl,i,u1⟩;revert b e f a c d l n o;revert u1;refine hV ?_;intro b e f a c d l n o
   rw[I.out];go_wp2_with fail
   with_reducible refine(fb i (by omega)).mono ?_
   rintro x Q ⟨N,rfl,g,u2⟩;revert i b e f a c d l n o;revert u2;refine eG ?_;intro i b e f a c d l n o
   obtain⟨R,rfl,g⟩:=g;obtain⟨L,X,S,rfl⟩:=g.shape;have ab:=a.free 0;have q1:=a.free 1;go_wp2;exact fB rfl rfl rfl ⟨_,rfl,g⟩ a trivial trivial b (by omega)
  .rw[if_neg A];have I:Y (∃H,E.dk (E.val F) (E.val m)=H/\0<=H):=G ⟨_,rfl,by have:= @E.n6 (E.val F) (E.val m);omega⟩;clear A;go_enter func103,ntmps103;go_wp2_with fail;generalize t:ah (ah (ah w _) _) _=K at*;obtain⟨b,e,f,a⟩:=dm t;clear t;replace c:=c.up b;replace d:=d.up b;have l:=e.c2;have n:=f.c2;have o:=a.c2;go_wp2_with fail
   with_reducible refine(lU c d (by omega) (by omega)).mono ?_
   rintro x P ⟨M,rfl,i,u1⟩;revert b e f a c d l n o;revert u1;refine hV ?_;intro b e f a c d l n o
   obtain⟨H,T,am⟩:=I.out;rw[T];clear T;go_wp2_with fail
   with_reducible refine(fb i (by omega)).mono ?_
   rintro x Q ⟨N,rfl,g,u2⟩;revert i b e f a c d l n o;revert u2;refine eG ?_;intro i b e f a c d l n o
   obtain⟨R,rfl,g⟩:=g;obtain⟨L,X,S,rfl⟩:=g.shape;have ab:=a.free 0;have q1:=a.free 1;go_wp2;exact fB rfl rfl rfl ⟨_,rfl,g⟩ a trivial trivial b (by omega)
 .rw[<-E.rh true false _ _ rfl]
  by_cases A:E.val F<E.val m
  .rw[if_pos A];have I:=G (E.jf A);clear A;go_enter func103,ntmps103;go_wp2_with fail;generalize t:ah (ah (ah w _) _) _=K at*;obtain⟨b,e,f,a⟩:=dm t;clear t;replace c:=c.up b;replace d:=d.up b;have l:=e.c2;have n:=f.c2;have o:=a.c2;go_wp2_with fail
   with_reducible refine(lU c d (by omega) (by omega)).mono ?_
   rintro x P ⟨M,rfl,i,u1⟩;revert b e f a c d l n o;revert u1;refine hV ?_;intro b e f a c d l n o
   rw[I.out];go_wp2_with fail
   with_reducible refine(fb i (by omega)).mono ?_
   rintro x Q ⟨N,rfl,g,u2⟩;revert i b e f a c d l n o;revert u2;refine eG ?_;intro i b e f a c d l n o
   obtain⟨R,rfl,g⟩:=g;obtain⟨L,X,S,rfl⟩:=g.shape;have ab:=a.free 0;have q1:=a.free 1;go_wp2;exact fB rfl rfl rfl ⟨_,rfl,g⟩ a trivial trivial b (by omega)
  .rw[if_neg A];have I:Y (∃H,E.dk (E.val F) (E.val m)=H/\0<=H):=G ⟨_,rfl,by have:= @E.n6 (E.val F) (E.val m);omega⟩;clear A;go_enter func103,ntmps103;go_wp2_with fail;generalize t:ah (ah (ah w _) _) _=K at*;obtain⟨b,e,f,a⟩:=dm t;clear t;replace c:=c.up b;replace d:=d.up b;have l:=e.c2;have n:=f.c2;have o:=a.c2;go_wp2_with fail
   with_reducible refine(lU c d (by omega) (by omega)).mono ?_
   rintro x P ⟨M,rfl,i,u1⟩;revert b e f a c d l n o;revert u1;refine hV ?_;intro b e f a c d l n o
   obtain⟨H,T,am⟩:=I.out;rw[T];clear T;go_wp2_with fail
   with_reducible refine(fb i (by omega)).mono ?_
   rintro x Q ⟨N,rfl,g,u2⟩;revert i b e f a c d l n o;revert u2;refine eG ?_;intro i b e f a c d l n o
   obtain⟨R,rfl,g⟩:=g;obtain⟨L,X,S,rfl⟩:=g.shape;have ab:=a.free 0;have q1:=a.free 1;go_wp2;exact fB rfl rfl rfl ⟨_,rfl,g⟩ a trivial trivial b (by omega)
 .rw[<-E.rf];go_enter func103,ntmps103;go_wp2_with fail;generalize t:ah (ah (ah w _) _) _=K at*;obtain⟨b,e,f,a⟩:=dm t;clear t;replace c:=c.up b;replace d:=d.up b;have l:=e.c2;have n:=f.c2;have o:=a.c2;obtain⟨p,q⟩:=l;obtain⟨r,s⟩:=n;have B:=o;revert b e f a c d p q r s;refine bw (V.refl K).drew ?_;intro b e f a c d p q r s
  have B:=a.c2;have Z:=a.free
  go_region_held3(λC=>V w C/\C.cell? ⟨w.heap.size,0,none⟩=U (J true)/\C.cell? ⟨w.heap.size,1,none⟩=U (D af F.length ag)/\C.cell? ⟨w.heap.size+1,0,none⟩=U (J true)/\C.cell? ⟨w.heap.size+1,1,none⟩=U (D ai m.length ak))
   (first|with_reducible exact⟨b,p,q,r,s⟩|with_reducible exact⟨(b.alloc_drew _),(aJ p),(aJ q),(aJ r),(aJ s)⟩|with_reducible exact⟨(b.dt _ _),(aK p),(aK q),(aK r),(aK s)⟩|((try simp only[<-World.setCell_drew]);first|with_reducible exact⟨(us (us b)),(cf (cf p)),(cf (cf q)),(cf (cf r)),(cf (cf s))⟩)|go_keep)
   ((first
     |(go_at_call 135
       with_reducible refine(rA ((rx c.nH d.nH).up (V.refl _).drew) (by simp) (by simp;omega) (by rw[aa.out];omega)).mono ?_
       rintro x P ⟨M,rfl,i,u1⟩;revert b e f a c d p q r s B;refine bC (V.skip u1) ?_;intro b e f a c d p q r s B
       try(replace i:=i.up (V.skip u1))
       try(replace g:=g.up (V.skip u1))
       replace Z:=a.free;clear u1;rw[aa.out]at i)
     |(go_at_call 95
       with_reducible refine(fb i (by omega)).mono ?_
       rintro x Q ⟨N,rfl,g,u2⟩;revert b e f a c d p q r s B;refine bC u2 ?_;intro b e f a c d p q r s B
       try(replace i:=i.up u2)
       try(replace g:=g.up u2)
       replace Z:=a.free;clear u2;obtain⟨R,rfl,g⟩:=g;obtain⟨L,X,S,rfl⟩:=g.shape)))
  go_wp2;exact fB rfl rfl rfl ⟨_,rfl,g⟩ a trivial trivial b (by omega)
theorem zs {n:Int}(h:n<0)(h2: -9223372036854775808<=n):IntKind.u64.wrap (-IntKind.u64.wrap n)=(n.natAbs:Int):=by
 rw[IntKind.wrap_u64,IntKind.wrap_u64];omega
theorem oE {n:Int}(v: -9223372036854775808<=n/\n<=9223372036854775807)(w:O):aj ae 52 #[H I n] w (g4 n w):=by
 have u:(E.words n.natAbs).length<=2:=E.og (by omega)
 by_cases t:n<0
 .have d:E.iv true n.natAbs=n:=by rw[E.ji];omega
  have aq:=G d;clear d;go_enter func52,ntmps52;go_wp2_with fail;generalize g:ah w _=l at*;obtain⟨b,a⟩:=aC g;clear g;have e:=a.c2;go_wp2_with fail
  with_reducible refine(h7 n.natAbs (by rw[zs (by omega) (by omega)]) (by omega) _).mono ?_
  rintro d m ⟨j,rfl,f,u1⟩;revert b a e;revert u1;refine bX ?_;intro b a e
  go_wp2_with fail
  with_reducible refine(fb f (by omega)).mono ?_
  rintro d o ⟨k,rfl,c,u2⟩;revert f b a e;revert u2;refine dW ?_;intro f b a e
  rw[aq.out]at c;obtain⟨p,rfl,c⟩:=c;obtain⟨i,r,q,rfl⟩:=c.shape;have s:=a.free 0;have q1:=a.free 1;go_wp2;exact fB rfl rfl rfl ⟨_,rfl,c⟩ a trivial trivial b (by omega)
 .have d:E.iv false n.natAbs=n:=by rw[E.ht];omega
  have aq:=G d;clear d;go_enter func52,ntmps52;go_wp2_with fail;generalize g:ah w _=l at*;obtain⟨b,a⟩:=aC g;clear g;have e:=a.c2;go_wp2_with fail
  with_reducible refine(h7 n.natAbs (by first|(rw[IntKind.wrap_u64];omega)|omega) (by omega) _).mono ?_
  rintro d m ⟨j,rfl,f,u1⟩;revert b a e;revert u1;refine bX ?_;intro b a e
  go_wp2_with fail
  with_reducible refine(fb f (by omega)).mono ?_
  rintro d o ⟨k,rfl,c,u2⟩;revert f b a e;revert u2;refine dW ?_;intro f b a e
  rw[aq.out]at c;obtain⟨p,rfl,c⟩:=c;obtain⟨i,r,q,rfl⟩:=c.shape;have s:=a.free 0;have q1:=a.free 1;go_wp2;exact fB rfl rfl rfl ⟨_,rfl,c⟩ a trivial trivial b (by omega)
theorem jm {k:Nat}(h:Wh w v z j)(r:Wh w u y k)(ab:j<=90000000)(af:k<=90000000):aj ae 80 #[v,u] w (g4 (z-y) w):=by
 have i:=h;have c:=r;rw[Int.sub_eq_add_neg];obtain⟨P,am,M,rfl,t,L,ag⟩:=h;obtain⟨Q,an,N,rfl,x,K,ak⟩:=r;obtain⟨B,G,rfl⟩:=t.form;obtain⟨ai,H,rfl⟩:=x.form;clear t x L K;go_enter func80,ntmps80;go_wp2_with fail;generalize s:ah (ah (ah w _) _) _=C at*;obtain⟨a,m,n,b⟩:=dm s;clear s;replace i:=i.up a;replace c:=c.up a;have E:=m.c2;have F:=n.c2;have p:=b.c2;obtain⟨d,e⟩:=E;obtain⟨f,g⟩:=F;revert a m n b i c d e f g;refine bw (V.refl C).drew ?_;intro a m n b i c d e f g;have p:=b.c2;have A:=b.free
 go_region_held3(λq=>V w q/\q.cell? ⟨w.heap.size,0,none⟩=U (J P)/\q.cell? ⟨w.heap.size,1,none⟩=U (D B M.length G)/\q.cell? ⟨w.heap.size+1,0,none⟩=U (J Q)/\q.cell? ⟨w.heap.size+1,1,none⟩=U (D ai N.length H))
  (first|with_reducible exact⟨a,d,e,f,g⟩|with_reducible exact⟨(a.alloc_drew _),(aJ d),(aJ e),(aJ f),(aJ g)⟩|with_reducible exact⟨(a.dt _ _),(aK d),(aK e),(aK f),(aK g)⟩|((try simp only[<-World.setCell_drew]);first|with_reducible exact⟨(us (us a)),(cf (cf d)),(cf (cf e)),(cf (cf f)),(cf (cf g))⟩)|go_keep)
  ((first
    |(go_at_call 122
      with_reducible refine(r0 c (by omega)).mono ?_
      rintro I X ⟨S,rfl,o,u1⟩;revert a m n b i c d e f g p;refine bC u1 ?_;intro a m n b i c d e f g p
      try(replace o:=o.up u1)
      try(replace l:=l.up u1)
      replace A:=b.free;clear u1)
    |(go_at_call 103
      with_reducible refine(oD i (o.wh (c.lz.neg)) (by omega) (by omega)).mono ?_
      rintro I Y ⟨T,rfl,l,u2⟩;revert a m n b i c d e f g p;refine bC u2 ?_;intro a m n b i c d e f g p
      try(replace o:=o.up u2)
      try(replace l:=l.up u2)
      replace A:=b.free;clear u2;obtain⟨Z,rfl,l⟩:=l;obtain⟨R,al,aa,rfl⟩:=l.shape)))
 go_wp2;exact fB rfl rfl rfl ⟨_,rfl,l⟩ b trivial trivial a (by omega)
theorem zu {k:Nat}(h:Wh w v z j)(m:Wh w u y k)(r:j<=90000000)(s:k<=90000000):aj ae 65 #[v,u] w (iV (E.bU (z-y)) w):=by
 have a:=h;have b:=m;obtain⟨N,Q,L,rfl,o,x,J⟩:=h;obtain⟨P,R,M,rfl,p,t,K⟩:=m;obtain⟨A,H,rfl⟩:=o.form;obtain⟨ai,I,rfl⟩:=p.form;have l:=(a.lz.mono r).add (b.lz.neg.mono s);rw[<-Int.sub_eq_add_neg]at l;clear o p x t;go_enter func65,ntmps65;go_wp2_with fail;generalize n:ah (ah w _) _=C at*;obtain⟨c,d,e⟩:=br n;clear n;replace a:=a.up c;replace b:=b.up c;have f:=d.c2;have g:=e.c2;go_wp2_with fail
 with_reducible refine(jm a b (by omega) (by omega)).mono ?_
 rintro q F ⟨B,rfl,i,u1⟩;revert c d e a b f g;revert u1;refine eR ?_;intro c d e a b f g;go_wp2_with fail
 with_reducible refine(g5 (i.wh l) (by omega)).mono ?_
 rintro q G ⟨rfl,u2⟩;revert i c d e a b f g;revert u2;refine el ?_;intro i c d e a b f g;go_wp2;go_ret;exact⟨rfl,c⟩
theorem zv:E.Lz 1 1:=E.hs
def zw (q:Int)(w:O)(e:aO)(a:O):Prop:= ∃c b d,e=aw (aY #[c,b,J true])/\Zw a c q/\Zw a b d/\V w a
theorem zx {k:Nat}(h:Wh w v z j)(bn:Wh w u y k)(bD:j<=40000000)(bF:k<=40000000)(bu:0<y):aj ae 150 #[v,u] w (zw (z/y) w):=by
 have n:=h;have l:=bn;obtain⟨s,bW,am,rfl,m,bv,bR⟩:=h;obtain⟨t,bX,al,rfl,o,aZ,bT⟩:=bn;obtain⟨aE,aG,rfl⟩:=m.form;obtain⟨ai,aH,rfl⟩:=o.form;have bp:E.val al≠0:=by rintro aD;rw[aD,E.jh]at aZ;omega
 have bB:(E.words (E.val am/E.val al)).length<=40000000:=aQ (aQ (E.eS (Nat.div_le_self _ _)) (E.cr m.ok)) (by omega);have aI:E.Lz (E.iv (s !=t) (E.val am/E.val al)) 40000000:=E.Lz.iv bB;have bq:=E.ye (s:=s) (t:=t) (N:=E.val am) (M:=E.val al) (by rw[aZ];exact bu);rw[bv,aZ]at bq;have a5:Y (E.bU y=1):=G (E.iO bu);generalize bs:E.iv (s !=t) (E.val am/E.val al)=q at*;have a2:=G bs;have aV:=aI.mul (l.lz.mono bF);have aW:=(n.lz.mono bD).add aV.neg;rw[<-Int.sub_eq_add_neg]at aW;have a1:=G bp;clear bp bv aZ bs;generalize bt:z-q*y=r at*;have a3:=G bt;have bI:=(aI.add (E.Lz.neg (z:=1) (k:=1) E.hs));clear bt;rcases bq with⟨br,aR⟩|⟨a6,aR⟩
 .have aU:=G aR;have aL:Y (E.bU r= -1):=G (E.jZ br);clear aR br;go_enter func150,ntmps150;go_wp2_with fail;generalize T:ah (ah (ah (ah w _) _) _) _=bg at*;obtain⟨c,e,f,b,a⟩:=dn T;clear T;revert n m l o;refine bf c ?_;intro n m l o
  have ab:=e.c2;have ak:=f.c2;obtain⟨g,i⟩:=b.c2;obtain⟨p,x⟩:=a.c2;go_wp2_with fail
  with_reducible refine(iT m o (by omega) (by omega) a1.out).mono ?_
  rintro X bh ⟨a8,a9,rfl,I,K,u1⟩;clear g i p x;revert c e f b a n m l o;refine bE u1 ?_;intro c e f b a n m l o
  replace ab:=e.c2;replace ak:=f.c2;obtain⟨g,i⟩:=b.c2;obtain⟨p,x⟩:=a.c2;clear u1;go_wp2_with fail
  with_reducible refine(fb I (by omega)).mono ?_
  rintro X aM ⟨ba,rfl,A,u2⟩;clear g i p x;revert I K c e f b a n m l o;refine bC u2 ?_;intro I K c e f b a n m l o
  replace ab:=e.c2;replace ak:=f.c2;obtain⟨g,i⟩:=b.c2;obtain⟨p,x⟩:=a.c2;clear u2;rw[show E.iv (!s==t) (E.val am/E.val al)=q from a2.out]at A;obtain⟨bl,rfl,A⟩:=A;obtain⟨ao,aw,av,rfl⟩:=A.shape;have aS:=b.free 0;have aT:=b.free 1;go_wp2_with fail;clear aS aT;generalize T:ag (ag aM _ _) _ _=aq at*;have d:=dp b T;clear T;revert I K n m l o A;refine bS d.kw ?_;intro I K n m l o A
  replace e:=e.bs d;replace f:=f.bs d;replace a:=a.bs d;replace b:=d.new;replace c:=c.bs d;clear d;clear g i p x;replace ab:=e.c2;replace ak:=f.c2;obtain⟨g,i⟩:=b.c2;obtain⟨p,x⟩:=a.c2;have P:Wh aq (af #[J (E.aB q),D ao aw av]) q 40000000:=Zw.wh ⟨_,rfl,A⟩ aI;obtain⟨B,C⟩:=ab;obtain⟨F,H⟩:=ak;revert I K n m l o A e f a b P;refine au (V.refl aq).drew ?_;intro I K n m l o A e f a b P;revert c g i B C F H;refine bS (V.refl aq).drew ?_;intro c g i B C F H
  obtain⟨p,x⟩:=a.c2;have ax:=a.free
  go_region_held3(λS=>V w S/\S.cell? ⟨w.heap.size,0,none⟩=U (J s)/\S.cell? ⟨w.heap.size,1,none⟩=U (D aE am.length aG)/\S.cell? ⟨w.heap.size+1,0,none⟩=U (J t)/\S.cell? ⟨w.heap.size+1,1,none⟩=U (D ai al.length aH)/\S.cell? ⟨w.heap.size+1+1,0,none⟩=U (J (E.aB q))/\S.cell? ⟨w.heap.size+1+1,1,none⟩=U (D ao aw av))
   (first|with_reducible exact⟨c,B,C,F,H,g,i⟩|with_reducible exact⟨(c.alloc_drew _),(aJ B),(aJ C),(aJ F),(aJ H),(aJ g),(aJ i)⟩|with_reducible exact⟨(c.dt _ _),(aK B),(aK C),(aK F),(aK H),(aK g),(aK i)⟩|((try simp only[<-World.setCell_drew]);first|with_reducible exact⟨(us (us c)),(cf (cf B)),(cf (cf C)),(cf (cf F)),(cf (cf H)),(cf (cf g)),(cf (cf i))⟩)|go_keep)
   ((first
     |(go_at_call 71
       with_reducible refine(kf P l (by omega) (by omega)).mono ?_
       rintro X bj ⟨bb,rfl,Q,u4⟩;revert I K n m l o A e f a b P;refine au u4 ?_;intro I K n m l o A e f a b P;revert c g i B C F H p x;refine bE u4 ?_;intro c g i B C F H p x
       try(replace Q:=Q.up u4)
       try(replace L:=L.up u4)
       replace ax:=a.free;clear u4)
     |(go_at_call 80
       with_reducible refine(jm n (Q.wh aV) (by omega) (by omega)).mono ?_
       rintro X aN ⟨bd,rfl,L,u5⟩;revert I K n m l o A e f a b P;refine au u5 ?_;intro I K n m l o A e f a b P;revert c g i B C F H p x;refine bE u5 ?_;intro c g i B C F H p x
       try(replace Q:=Q.up u5)
       try(replace L:=L.up u5)
       replace ax:=a.free;clear u5;rw[a3.out]at L;obtain⟨bm,rfl,L⟩:=L;obtain⟨az,aB,aA,rfl⟩:=L.shape)))
  go_wp2_with fail;clear ax;generalize T:ag (ag aN _ _) _ _=ar at*;have d:=dp a T;clear T;revert I K n m l o A P Q L;refine bw d.kw ?_;intro I K n m l o A P Q L
  replace e:=e.bs d;replace f:=f.bs d;replace b:=b.bs d;replace a:=d.new;replace c:=c.bs d;clear d;clear B C F H g i p x;obtain⟨B,C⟩:=e.c2;obtain⟨F,H⟩:=f.c2;obtain⟨g,i⟩:=b.c2;obtain⟨p,x⟩:=a.c2;have R:Wh ar (af #[J (E.aB r),D az aB aA]) r 90000000:=Zw.wh ⟨_,rfl,L⟩ (aW.mono (by omega));revert I K n m l o A P Q L e R;refine au (V.refl ar).drew ?_;intro I K n m l o A P Q L e R;revert f b a c B C F H g i p x;refine au (V.refl ar).drew ?_;intro f b a c B C F H g i p x
  go_region_held3(λS=>V w S/\S.cell? ⟨w.heap.size,0,none⟩=U (J s)/\S.cell? ⟨w.heap.size,1,none⟩=U (D aE am.length aG)/\S.cell? ⟨w.heap.size+1,0,none⟩=U (J t)/\S.cell? ⟨w.heap.size+1,1,none⟩=U (D ai al.length aH)/\S.cell? ⟨w.heap.size+1+1,0,none⟩=U (J (E.aB q))/\S.cell? ⟨w.heap.size+1+1,1,none⟩=U (D ao aw av)/\S.cell? ⟨w.heap.size+1+1+1,0,none⟩=U (J (E.aB r))/\S.cell? ⟨w.heap.size+1+1+1,1,none⟩=U (D az aB aA))
   (first|with_reducible exact⟨c,B,C,F,H,g,i,p,x⟩|with_reducible exact⟨(c.alloc_drew _),(aJ B),(aJ C),(aJ F),(aJ H),(aJ g),(aJ i),(aJ p),(aJ x)⟩|with_reducible exact⟨(c.dt _ _),(aK B),(aK C),(aK F),(aK H),(aK g),(aK i),(aK p),(aK x)⟩|go_keep)
   ((first
     |(go_at_call 55
       with_reducible refine(g5 R (by omega)).mono ?_
       rintro X bk ⟨rfl,u7⟩;revert I K n m l o A P Q L e R;refine au u7 ?_;intro I K n m l o A P Q L e R;revert f b a c B C F H g i p x;revert u7;refine iI ?_;intro f b a c B C F H g i p x
       rw[aL.out])
     |(go_at_call 55
       with_reducible refine(g5 l (by omega)).mono ?_
       rintro X aF ⟨rfl,u8⟩;revert I K n m l o A P Q L e R;refine au u8 ?_;intro I K n m l o A P Q L e R;revert f b a c B C F H g i p x;revert u8;refine iI ?_;intro f b a c B C F H g i p x
       rw[a5.out])))
  go_wp2_with fail;clear p x;revert I K n m l o A P Q L e R;refine au (V.refl aF).drew ?_;intro I K n m l o A P Q L e R;revert f b a c B C F H;refine b9 (V.refl aF).drew ?_;intro f b a c B C F H
  obtain⟨g,i⟩:=b.c2;have a7:=b.free;obtain⟨p,x⟩:=a.c2
  go_region_with((first
   |(go_at_call 52
     with_reducible refine(oE (by omega) _).mono ?_
     rintro X aY ⟨bL,rfl,aa,u9⟩;clear p x;revert I K n m l o A P Q L e R;refine au u9 ?_;intro I K n m l o A P Q L e R;revert f b a c B C F H g i;refine bw u9 ?_;intro f b a c B C F H g i
     try(replace aa:=aa.up u9)
     try(replace Z:=Z.up u9)
     replace a7:=b.free;obtain⟨p,x⟩:=a.c2;clear u9)
   |(go_at_call 80
     with_reducible refine(jm P (aa.wh (k:=1) zv) (by omega) (by omega)).mono ?_
     rintro X ay ⟨bJ,rfl,Z,u10⟩;clear p x;revert I K n m l o A P Q L e R;refine au u10 ?_;intro I K n m l o A P Q L e R;revert f b a c B C F H g i;refine bw u10 ?_;intro f b a c B C F H g i
     try(replace aa:=aa.up u10)
     try(replace Z:=Z.up u10)
     replace a7:=b.free;obtain⟨p,x⟩:=a.c2;clear u10;obtain⟨bN,rfl,Z⟩:=Z;obtain⟨bG,bU,bP,rfl⟩:=Z.shape)))
  all_goals
   go_wp2_with fail;clear a7;generalize T:ag (ag ay _ _) _ _=bi at*;have d:=dp b T;clear T;revert I K n m l o A P Q L R aa;refine au d.kw ?_;intro I K n m l o A P Q L R aa;revert Z;refine cj d.kw ?_;intro Z
   replace e:=e.bs d;replace f:=f.bs d;replace a:=a.bs d;replace b:=d.new;replace c:=c.bs d;clear d;clear B C F H g i p x;obtain⟨B,C⟩:=e.c2;obtain⟨F,H⟩:=f.c2;obtain⟨g,i⟩:=b.c2;obtain⟨p,x⟩:=a.c2;go_wp2_with fail
   with_reducible refine(oD R l (by omega) (by omega)).mono ?_
   rintro X bx ⟨bK,rfl,an,u12⟩;revert I K n m l o A P Q L R aa;refine au u12 ?_;intro I K n m l o A P Q L R aa;revert Z e f a b c B C F H g i;refine au u12 ?_;intro Z e f a b c B C F H g i;revert p x;revert u12;refine gw ?_;intro p x
   obtain⟨bO,rfl,an⟩:=an;obtain⟨bH,bV,bQ,rfl⟩:=an.shape;have aC:=a.free 0;have g3:=a.free 1;go_wp2_with fail;clear aC g3;generalize T:ag (ag bx _ _) _ _=bz at*;have d:=dp a T;clear T;revert I K n m l o A P Q L R aa;refine au d.kw ?_;intro I K n m l o A P Q L R aa;revert Z an;refine cR d.kw ?_;intro Z an
   replace e:=e.bs d;replace f:=f.bs d;replace b:=b.bs d;replace a:=d.new;replace c:=c.bs d;clear d;clear B C F H g i p x;obtain⟨B,C⟩:=e.c2;obtain⟨F,H⟩:=f.c2;obtain⟨g,i⟩:=b.c2;obtain⟨p,x⟩:=a.c2;have aO:=b.free 0;have aP:=b.free 1;have aC:=a.free 0;have g3:=a.free 1
   go_region
   clear aO aP aC g3;generalize T:ag (ag bz _ _) _ _=bA at*;have d:=dp b T;clear T;revert I K n m l o A P Q L R aa;refine au d.kw ?_;intro I K n m l o A P Q L R aa;revert Z an;refine cR d.kw ?_;intro Z an
   replace e:=e.bs d;replace f:=f.bs d;replace a:=a.bs d;replace b:=d.new;replace c:=c.bs d;clear d;clear B C F H g i p x;obtain⟨B,C⟩:=e.c2;obtain⟨F,H⟩:=f.c2;obtain⟨g,i⟩:=b.c2;obtain⟨p,x⟩:=a.c2;generalize T:ag (ag bA _ _) _ _=aX at*;have d:=dp a T;clear T;revert I K n m l o A P Q L R aa;refine au d.kw ?_;intro I K n m l o A P Q L R aa;revert Z an;refine cR d.kw ?_;intro Z an
   replace e:=e.bs d;replace f:=f.bs d;replace b:=b.bs d;replace a:=d.new;replace c:=c.bs d;clear d;clear B C F H g i p x;obtain⟨B,C⟩:=e.c2;obtain⟨F,H⟩:=f.c2;obtain⟨g,i⟩:=b.c2;obtain⟨p,x⟩:=a.c2;revert I K n m l o A P Q L R aa;refine au (V.refl aX).drew ?_;intro I K n m l o A P Q L R aa;revert Z an e f b a c B C F H g;refine au (V.refl aX).drew ?_;intro Z an e f b a c B C F H g;revert i p x;refine bo (V.refl aX).drew ?_;intro i p x
   generalize aX.drew=bM at*;go_wp2;exact a4 (oC rfl rfl rfl hz hA hz hA b rfl a rfl) rfl ⟨_,_,(r+y),rfl,by rw[<-aU.out];exact⟨_,rfl,Z⟩,⟨_,rfl,an⟩,c⟩
 .have aU:=G aR;clear aR;rcases Int.lt_or_eq_of_le a6 with aD|aD
  .have aL:Y (E.bU r=1):=G (E.iO aD);clear aD a6;go_enter func150,ntmps150;go_wp2_with fail;generalize T:ah (ah (ah (ah w _) _) _) _=bg at*;obtain⟨c,e,f,b,a⟩:=dn T;clear T;revert n m l o;refine bf c ?_;intro n m l o
   have ab:=e.c2;have ak:=f.c2;obtain⟨g,i⟩:=b.c2;obtain⟨p,x⟩:=a.c2;go_wp2_with fail
   with_reducible refine(iT m o (by omega) (by omega) a1.out).mono ?_
   rintro X bh ⟨a8,a9,rfl,I,K,u1⟩;clear g i p x;revert c e f b a n m l o;refine bE u1 ?_;intro c e f b a n m l o
   replace ab:=e.c2;replace ak:=f.c2;obtain⟨g,i⟩:=b.c2;obtain⟨p,x⟩:=a.c2;clear u1;go_wp2_with fail
   with_reducible refine(fb I (by omega)).mono ?_
   rintro X aM ⟨ba,rfl,A,u2⟩;clear g i p x;revert I K c e f b a n m l o;refine bC u2 ?_;intro I K c e f b a n m l o
   replace ab:=e.c2;replace ak:=f.c2;obtain⟨g,i⟩:=b.c2;obtain⟨p,x⟩:=a.c2;clear u2;rw[show E.iv (!s==t) (E.val am/E.val al)=q from a2.out]at A;obtain⟨bl,rfl,A⟩:=A;obtain⟨ao,aw,av,rfl⟩:=A.shape;have aS:=b.free 0;have aT:=b.free 1;go_wp2_with fail;clear aS aT;generalize T:ag (ag aM _ _) _ _=aq at*;have d:=dp b T;clear T;revert I K n m l o A;refine bS d.kw ?_;intro I K n m l o A
   replace e:=e.bs d;replace f:=f.bs d;replace a:=a.bs d;replace b:=d.new;replace c:=c.bs d;clear d;clear g i p x;replace ab:=e.c2;replace ak:=f.c2;obtain⟨g,i⟩:=b.c2;obtain⟨p,x⟩:=a.c2;have P:Wh aq (af #[J (E.aB q),D ao aw av]) q 40000000:=Zw.wh ⟨_,rfl,A⟩ aI;obtain⟨B,C⟩:=ab;obtain⟨F,H⟩:=ak;revert I K n m l o A e f a b P;refine au (V.refl aq).drew ?_;intro I K n m l o A e f a b P;revert c g i B C F H;refine bS (V.refl aq).drew ?_;intro c g i B C F H
   obtain⟨p,x⟩:=a.c2;have ax:=a.free
   go_region_held3(λS=>V w S/\S.cell? ⟨w.heap.size,0,none⟩=U (J s)/\S.cell? ⟨w.heap.size,1,none⟩=U (D aE am.length aG)/\S.cell? ⟨w.heap.size+1,0,none⟩=U (J t)/\S.cell? ⟨w.heap.size+1,1,none⟩=U (D ai al.length aH)/\S.cell? ⟨w.heap.size+1+1,0,none⟩=U (J (E.aB q))/\S.cell? ⟨w.heap.size+1+1,1,none⟩=U (D ao aw av))
    (first|with_reducible exact⟨c,B,C,F,H,g,i⟩|with_reducible exact⟨(c.alloc_drew _),(aJ B),(aJ C),(aJ F),(aJ H),(aJ g),(aJ i)⟩|with_reducible exact⟨(c.dt _ _),(aK B),(aK C),(aK F),(aK H),(aK g),(aK i)⟩|((try simp only[<-World.setCell_drew]);first|with_reducible exact⟨(us (us c)),(cf (cf B)),(cf (cf C)),(cf (cf F)),(cf (cf H)),(cf (cf g)),(cf (cf i))⟩)|go_keep)
    ((first
      |(go_at_call 71
        with_reducible refine(kf P l (by omega) (by omega)).mono ?_
        rintro X bj ⟨bb,rfl,Q,u4⟩;revert I K n m l o A e f a b P;refine au u4 ?_;intro I K n m l o A e f a b P;revert c g i B C F H p x;refine bE u4 ?_;intro c g i B C F H p x
        try(replace Q:=Q.up u4)
        try(replace L:=L.up u4)
        replace ax:=a.free;clear u4)
      |(go_at_call 80
        with_reducible refine(jm n (Q.wh aV) (by omega) (by omega)).mono ?_
        rintro X aN ⟨bd,rfl,L,u5⟩;revert I K n m l o A e f a b P;refine au u5 ?_;intro I K n m l o A e f a b P;revert c g i B C F H p x;refine bE u5 ?_;intro c g i B C F H p x
        try(replace Q:=Q.up u5)
        try(replace L:=L.up u5)
        replace ax:=a.free;clear u5;rw[a3.out]at L;obtain⟨bm,rfl,L⟩:=L;obtain⟨az,aB,aA,rfl⟩:=L.shape)))
   go_wp2_with fail;clear ax;generalize T:ag (ag aN _ _) _ _=ar at*;have d:=dp a T;clear T;revert I K n m l o A P Q L;refine bw d.kw ?_;intro I K n m l o A P Q L
   replace e:=e.bs d;replace f:=f.bs d;replace b:=b.bs d;replace a:=d.new;replace c:=c.bs d;clear d;clear B C F H g i p x;obtain⟨B,C⟩:=e.c2;obtain⟨F,H⟩:=f.c2;obtain⟨g,i⟩:=b.c2;obtain⟨p,x⟩:=a.c2;have R:Wh ar (af #[J (E.aB r),D az aB aA]) r 90000000:=Zw.wh ⟨_,rfl,L⟩ (aW.mono (by omega));revert I K n m l o A P Q L e R;refine au (V.refl ar).drew ?_;intro I K n m l o A P Q L e R;revert f b a c B C F H g i p x;refine au (V.refl ar).drew ?_;intro f b a c B C F H g i p x
   go_region_held3(λS=>V w S/\S.cell? ⟨w.heap.size,0,none⟩=U (J s)/\S.cell? ⟨w.heap.size,1,none⟩=U (D aE am.length aG)/\S.cell? ⟨w.heap.size+1,0,none⟩=U (J t)/\S.cell? ⟨w.heap.size+1,1,none⟩=U (D ai al.length aH)/\S.cell? ⟨w.heap.size+1+1,0,none⟩=U (J (E.aB q))/\S.cell? ⟨w.heap.size+1+1,1,none⟩=U (D ao aw av)/\S.cell? ⟨w.heap.size+1+1+1,0,none⟩=U (J (E.aB r))/\S.cell? ⟨w.heap.size+1+1+1,1,none⟩=U (D az aB aA))
    (first|with_reducible exact⟨c,B,C,F,H,g,i,p,x⟩|with_reducible exact⟨(c.alloc_drew _),(aJ B),(aJ C),(aJ F),(aJ H),(aJ g),(aJ i),(aJ p),(aJ x)⟩|with_reducible exact⟨(c.dt _ _),(aK B),(aK C),(aK F),(aK H),(aK g),(aK i),(aK p),(aK x)⟩|go_keep)
    ((first
      |(go_at_call 55
        with_reducible refine(g5 R (by omega)).mono ?_
        rintro X bk ⟨rfl,u7⟩;revert I K n m l o A P Q L e R;refine au u7 ?_;intro I K n m l o A P Q L e R;revert f b a c B C F H g i p x;revert u7;refine iI ?_;intro f b a c B C F H g i p x
        rw[aL.out])
      |(go_at_call 55
        with_reducible refine(g5 l (by omega)).mono ?_
        rintro X aF ⟨rfl,u8⟩;revert I K n m l o A P Q L e R;refine au u8 ?_;intro I K n m l o A P Q L e R;revert f b a c B C F H g i p x;revert u8;refine iI ?_;intro f b a c B C F H g i p x
        rw[a5.out])))
   go_wp2_with fail;have aO:=b.free 0;have aP:=b.free 1;have aC:=a.free 0;have g3:=a.free 1
   go_region
   clear aO aP aC g3;generalize T:ag (ag aF _ _) _ _=aY at*;have d:=dp b T;clear T;revert I K n m l o A P Q L R;refine bC d.kw ?_;intro I K n m l o A P Q L R
   replace e:=e.bs d;replace f:=f.bs d;replace a:=a.bs d;replace b:=d.new;replace c:=c.bs d;clear d;clear B C F H g i p x;obtain⟨B,C⟩:=e.c2;obtain⟨F,H⟩:=f.c2;obtain⟨g,i⟩:=b.c2;obtain⟨p,x⟩:=a.c2;generalize T:ag (ag aY _ _) _ _=ay at*;have d:=dp a T;clear T;revert I K n m l o A P Q L R;refine bC d.kw ?_;intro I K n m l o A P Q L R
   replace e:=e.bs d;replace f:=f.bs d;replace b:=b.bs d;replace a:=d.new;replace c:=c.bs d;clear d;clear B C F H g i p x;obtain⟨B,C⟩:=e.c2;obtain⟨F,H⟩:=f.c2;obtain⟨g,i⟩:=b.c2;obtain⟨p,x⟩:=a.c2;revert I K n m l o A P Q L R e;refine au (V.refl ay).drew ?_;intro I K n m l o A P Q L R e;revert f b a c B C F H g i p x;refine au (V.refl ay).drew ?_;intro f b a c B C F H g i p x
   generalize ay.drew=bi at*;go_wp2;exact a4 (oC rfl rfl rfl hz hA hz hA b rfl a rfl) rfl ⟨_,_,r,rfl,by rw[<-aU.out];exact⟨_,rfl,A⟩,⟨_,rfl,L⟩,c⟩
  .have aL:Y (E.bU r=0):=G (by rw[<-aD];rfl);clear aD a6;go_enter func150,ntmps150;go_wp2_with fail;generalize T:ah (ah (ah (ah w _) _) _) _=bg at*;obtain⟨c,e,f,b,a⟩:=dn T;clear T;revert n m l o;refine bf c ?_;intro n m l o
   have ab:=e.c2;have ak:=f.c2;obtain⟨g,i⟩:=b.c2;obtain⟨p,x⟩:=a.c2;go_wp2_with fail
   with_reducible refine(iT m o (by omega) (by omega) a1.out).mono ?_
   rintro X bh ⟨a8,a9,rfl,I,K,u1⟩;clear g i p x;revert c e f b a n m l o;refine bE u1 ?_;intro c e f b a n m l o
   replace ab:=e.c2;replace ak:=f.c2;obtain⟨g,i⟩:=b.c2;obtain⟨p,x⟩:=a.c2;clear u1;go_wp2_with fail
   with_reducible refine(fb I (by omega)).mono ?_
   rintro X aM ⟨ba,rfl,A,u2⟩;clear g i p x;revert I K c e f b a n m l o;refine bC u2 ?_;intro I K c e f b a n m l o
   replace ab:=e.c2;replace ak:=f.c2;obtain⟨g,i⟩:=b.c2;obtain⟨p,x⟩:=a.c2;clear u2;rw[show E.iv (!s==t) (E.val am/E.val al)=q from a2.out]at A;obtain⟨bl,rfl,A⟩:=A;obtain⟨ao,aw,av,rfl⟩:=A.shape;have aS:=b.free 0;have aT:=b.free 1;go_wp2_with fail;clear aS aT;generalize T:ag (ag aM _ _) _ _=aq at*;have d:=dp b T;clear T;revert I K n m l o A;refine bS d.kw ?_;intro I K n m l o A
   replace e:=e.bs d;replace f:=f.bs d;replace a:=a.bs d;replace b:=d.new;replace c:=c.bs d;clear d;clear g i p x;replace ab:=e.c2;replace ak:=f.c2;obtain⟨g,i⟩:=b.c2;obtain⟨p,x⟩:=a.c2;have P:Wh aq (af #[J (E.aB q),D ao aw av]) q 40000000:=Zw.wh ⟨_,rfl,A⟩ aI;obtain⟨B,C⟩:=ab;obtain⟨F,H⟩:=ak;revert I K n m l o A e f a b P;refine au (V.refl aq).drew ?_;intro I K n m l o A e f a b P;revert c g i B C F H;refine bS (V.refl aq).drew ?_;intro c g i B C F H
   obtain⟨p,x⟩:=a.c2;have ax:=a.free
   go_region_held3(λS=>V w S/\S.cell? ⟨w.heap.size,0,none⟩=U (J s)/\S.cell? ⟨w.heap.size,1,none⟩=U (D aE am.length aG)/\S.cell? ⟨w.heap.size+1,0,none⟩=U (J t)/\S.cell? ⟨w.heap.size+1,1,none⟩=U (D ai al.length aH)/\S.cell? ⟨w.heap.size+1+1,0,none⟩=U (J (E.aB q))/\S.cell? ⟨w.heap.size+1+1,1,none⟩=U (D ao aw av))
    (first|with_reducible exact⟨c,B,C,F,H,g,i⟩|with_reducible exact⟨(c.alloc_drew _),(aJ B),(aJ C),(aJ F),(aJ H),(aJ g),(aJ i)⟩|with_reducible exact⟨(c.dt _ _),(aK B),(aK C),(aK F),(aK H),(aK g),(aK i)⟩|((try simp only[<-World.setCell_drew]);first|with_reducible exact⟨(us (us c)),(cf (cf B)),(cf (cf C)),(cf (cf F)),(cf (cf H)),(cf (cf g)),(cf (cf i))⟩)|go_keep)
    ((first
      |(go_at_call 71
        with_reducible refine(kf P l (by omega) (by omega)).mono ?_
        rintro X bj ⟨bb,rfl,Q,u4⟩;revert I K n m l o A e f a b P;refine au u4 ?_;intro I K n m l o A e f a b P;revert c g i B C F H p x;refine bE u4 ?_;intro c g i B C F H p x
        try(replace Q:=Q.up u4)
        try(replace L:=L.up u4)
        replace ax:=a.free;clear u4)
      |(go_at_call 80
        with_reducible refine(jm n (Q.wh aV) (by omega) (by omega)).mono ?_
        rintro X aN ⟨bd,rfl,L,u5⟩;revert I K n m l o A e f a b P;refine au u5 ?_;intro I K n m l o A e f a b P;revert c g i B C F H p x;refine bE u5 ?_;intro c g i B C F H p x
        try(replace Q:=Q.up u5)
        try(replace L:=L.up u5)
        replace ax:=a.free;clear u5;rw[a3.out]at L;obtain⟨bm,rfl,L⟩:=L;obtain⟨az,aB,aA,rfl⟩:=L.shape)))
   go_wp2_with fail;clear ax;generalize T:ag (ag aN _ _) _ _=ar at*;have d:=dp a T;clear T;revert I K n m l o A P Q L;refine bw d.kw ?_;intro I K n m l o A P Q L
   replace e:=e.bs d;replace f:=f.bs d;replace b:=b.bs d;replace a:=d.new;replace c:=c.bs d;clear d;clear B C F H g i p x;obtain⟨B,C⟩:=e.c2;obtain⟨F,H⟩:=f.c2;obtain⟨g,i⟩:=b.c2;obtain⟨p,x⟩:=a.c2;have R:Wh ar (af #[J (E.aB r),D az aB aA]) r 90000000:=Zw.wh ⟨_,rfl,L⟩ (aW.mono (by omega));revert I K n m l o A P Q L e R;refine au (V.refl ar).drew ?_;intro I K n m l o A P Q L e R;revert f b a c B C F H g i p x;refine au (V.refl ar).drew ?_;intro f b a c B C F H g i p x
   go_region_held3(λS=>V w S/\S.cell? ⟨w.heap.size,0,none⟩=U (J s)/\S.cell? ⟨w.heap.size,1,none⟩=U (D aE am.length aG)/\S.cell? ⟨w.heap.size+1,0,none⟩=U (J t)/\S.cell? ⟨w.heap.size+1,1,none⟩=U (D ai al.length aH)/\S.cell? ⟨w.heap.size+1+1,0,none⟩=U (J (E.aB q))/\S.cell? ⟨w.heap.size+1+1,1,none⟩=U (D ao aw av)/\S.cell? ⟨w.heap.size+1+1+1,0,none⟩=U (J (E.aB r))/\S.cell? ⟨w.heap.size+1+1+1,1,none⟩=U (D az aB aA))
    (first|with_reducible exact⟨c,B,C,F,H,g,i,p,x⟩|with_reducible exact⟨(c.alloc_drew _),(aJ B),(aJ C),(aJ F),(aJ H),(aJ g),(aJ i),(aJ p),(aJ x)⟩|with_reducible exact⟨(c.dt _ _),(aK B),(aK C),(aK F),(aK H),(aK g),(aK i),(aK p),(aK x)⟩|go_keep)
    ((first
      |(go_at_call 55
        with_reducible refine(g5 R (by omega)).mono ?_
        rintro X bk ⟨rfl,u7⟩;revert I K n m l o A P Q L e R;refine au u7 ?_;intro I K n m l o A P Q L e R;revert f b a c B C F H g i p x;revert u7;refine iI ?_;intro f b a c B C F H g i p x
        rw[aL.out])
      |(go_at_call 55
        with_reducible refine(g5 l (by omega)).mono ?_
        rintro X aF ⟨rfl,u8⟩;revert I K n m l o A P Q L e R;refine au u8 ?_;intro I K n m l o A P Q L e R;revert f b a c B C F H g i p x;revert u8;refine iI ?_;intro f b a c B C F H g i p x
        rw[a5.out])))
   go_wp2_with fail;have aO:=b.free 0;have aP:=b.free 1;have aC:=a.free 0;have g3:=a.free 1
   go_region
   clear aO aP aC g3;generalize T:ag (ag aF _ _) _ _=aY at*;have d:=dp b T;clear T;revert I K n m l o A P Q L R;refine bC d.kw ?_;intro I K n m l o A P Q L R
   replace e:=e.bs d;replace f:=f.bs d;replace a:=a.bs d;replace b:=d.new;replace c:=c.bs d;clear d;clear B C F H g i p x;obtain⟨B,C⟩:=e.c2;obtain⟨F,H⟩:=f.c2;obtain⟨g,i⟩:=b.c2;obtain⟨p,x⟩:=a.c2;generalize T:ag (ag aY _ _) _ _=ay at*;have d:=dp a T;clear T;revert I K n m l o A P Q L R;refine bC d.kw ?_;intro I K n m l o A P Q L R
   replace e:=e.bs d;replace f:=f.bs d;replace b:=b.bs d;replace a:=d.new;replace c:=c.bs d;clear d;clear B C F H g i p x;obtain⟨B,C⟩:=e.c2;obtain⟨F,H⟩:=f.c2;obtain⟨g,i⟩:=b.c2;obtain⟨p,x⟩:=a.c2;revert I K n m l o A P Q L R e;refine au (V.refl ay).drew ?_;intro I K n m l o A P Q L R e;revert f b a c B C F H g i p x;refine au (V.refl ay).drew ?_;intro f b a c B C F H g i p x
   generalize ay.drew=bi at*;go_wp2;exact a4 (oC rfl rfl rfl hz hA hz hA b rfl a rfl) rfl ⟨_,_,r,rfl,by rw[<-aU.out];exact⟨_,rfl,A⟩,⟨_,rfl,L⟩,c⟩
end Go.Proofs.YtjopfpegcckllaaGreatDoor
