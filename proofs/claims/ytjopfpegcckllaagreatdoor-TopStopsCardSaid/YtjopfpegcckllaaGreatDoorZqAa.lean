/- A part of TopStops's proof: Short Plain Mem Nat. -/
import Derived.Deep.RegionHeld3
import Derived.Test.YtjopfpegcckllaaGreatDoorChecked
import Derived.WalkKit
import Derived.WalkSpells
import Derived.WalkLawsBesides
import Derived.BigQuiet
import Derived.Deep.QuietTactic
import Derived.Lib.Hide
import Derived.Laws.CopyOwn
import Derived.Deep.Draws

set_option linter.unusedVariables false
set_option linter.unusedSimpArgs false
set_option maxRecDepth 100000
set_option maxHeartbeats 12800000
open Go.Proofs.Tryz
open Go renaming Oper→bt,Act→a6,World→O,Value→W,wpAnyH→bJ,AllReadyH→b5,Calls→aj,Addr→am,maxLen→cm,TypeId→an,Ending→aO,wpList→bG,sizeOf→ci
open Go.Act renaming put→bg
open Go.AllReadyH renaming cons→av,nil→bm
open Go.Ending renaming returned→aw
open Go.IntKind renaming u32→a7,i64→I
open Go.Lib renaming hid→G
open Go.Obj renaming cells→ao
open Go.Proofs.Tryz renaming prog→ae
open Go.RowKit renaming Hid→Y,intOf→aI
open Go.Value renaming tuple→aY,int→H,bool→J,slice→D
open Go.World renaming setCell→ag
open List renaming getElem_mem→cq,getD_eq_getElem?_getD→bz,getElem?_eq_getElem→aT,replicate→bA,take_length→co
open Nat renaming le_refl→a8,le_trans→aQ,zero_le→bn
open Option renaming some→U
variable {ec:Array Bool}{aV:Array bt}{Q:Go.Exit->a6->O->Prop}{z:Int}{ls:List (List Nat)}{a l o p:List Nat}{vs xs:List W}{rest:List bt}{K M N P a0 a1 a2 b b1 b6 base bi c cu cy d dJ dY g gG h i j k m n q r s t x y:Nat}{ab w w0:O}{S:O->Prop}{A:Option am}{md:Go.Region.Mode}{u v:W}{e:an}{oi:bt}
namespace Go.Proofs.YtjopfpegcckllaaGreatDoor
abbrev Lu (aM A:Prop)(B:Prop):=HAppend (PLift aM) (PLift A) (PLift B)
abbrev bu {aM A B:Prop}(f:aM->A->B):Lu aM A B:=⟨λu a=>⟨f u.down a.down⟩⟩
section
variable {aM A0 A1 A2 A3 A4 A5 A6 A7 A8 A9 iG lw B0 B1 B2 B3 B4 B5 B6 B7 B8 B9 iH ly bh:Prop} [wl:Lu aM A0 B0] [l1:Lu aM A1 B1] [l2:Lu aM A2 B2] [l3:Lu aM A3 B3] [l4:Lu aM A4 B4] [l5:Lu aM A5 B5] [GZ:Lu aM A6 B6] [G0:Lu aM A7 B7] [G1:Lu aM A8 B8] [G2:Lu aM A9 B9] [G3:Lu aM iG iH] [G4:Lu aM lw ly]
theorem f0 (u:aM)(a0:A0):B0:=(wl.1 ⟨u⟩ ⟨a0⟩).down
theorem cj (u:aM)(h:B0->bh):A0->bh:=λa=>h (f0 u a)
theorem nL (h:B0->bh)(u:aM):A0->bh:=cj u h
theorem cR (u:aM)(h:B0->B1->bh):A0->A1->bh:=λa=>cj u (h (f0 u a))
theorem gw (h:B0->B1->bh)(u:aM):A0->A1->bh:=cR u h
theorem bo (u:aM)(h:B0->B1->B2->bh):A0->A1->A2->bh:=λa=>cR u (h (f0 u a))
theorem bX (h:B0->B1->B2->bh)(u:aM):A0->A1->A2->bh:=bo u h
theorem nM (u:aM)(a0:A0)(a1:A1)(a2:A2)(h:B0->B1->B2->bh):bh:=bo u h a0 a1 a2
theorem bf (u:aM)(h:B0->B1->B2->B3->bh):A0->A1->A2->A3->bh:=λa=>bo u (h (f0 u a))
theorem dW (h:B0->B1->B2->B3->bh)(u:aM):A0->A1->A2->A3->bh:=bf u h
theorem jb (u:aM)(a0:A0)(a1:A1)(a2:A2)(bb:A3)(h:B0->B1->B2->B3->bh):bh:=bf u h a0 a1 a2 bb
theorem b8 (u:aM)(h:B0->B1->B2->B3->B4->bh):A0->A1->A2->A3->A4->bh:=λa=>bf u (h (f0 u a))
theorem dH (h:B0->B1->B2->B3->B4->bh)(u:aM):A0->A1->A2->A3->A4->bh:=b8 u h
theorem bO (u:aM)(h:B0->B1->B2->B3->B4->B5->bh):A0->A1->A2->A3->A4->A5->bh:=λa=>b8 u (h (f0 u a))
theorem dX (h:B0->B1->B2->B3->B4->B5->bh)(u:aM):A0->A1->A2->A3->A4->A5->bh:=bO u h
theorem gZ (u:aM)(a0:A0)(a1:A1)(a2:A2)(bb:A3)(bq:A4)(bB:A5)(h:B0->B1->B2->B3->B4->B5->bh):bh:=bO u h a0 a1 a2 bb bq bB
theorem bS (u:aM)(h:B0->B1->B2->B3->B4->B5->B6->bh):A0->A1->A2->A3->A4->A5->A6->bh:=λa=>bO u (h (f0 u a))
theorem eR (h:B0->B1->B2->B3->B4->B5->B6->bh)(u:aM):A0->A1->A2->A3->A4->A5->A6->bh:=bS u h
theorem gz (u:aM)(a0:A0)(a1:A1)(a2:A2)(bb:A3)(bq:A4)(bB:A5)(bK:A6)(h:B0->B1->B2->B3->B4->B5->B6->bh):bh:=bS u h a0 a1 a2 bb bq bB bK
theorem b9 (u:aM)(h:B0->B1->B2->B3->B4->B5->B6->B7->bh):A0->A1->A2->A3->A4->A5->A6->A7->bh:=λa=>bS u (h (f0 u a))
theorem el (h:B0->B1->B2->B3->B4->B5->B6->B7->bh)(u:aM):A0->A1->A2->A3->A4->A5->A6->A7->bh:=b9 u h
theorem bE (u:aM)(h:B0->B1->B2->B3->B4->B5->B6->B7->B8->bh):A0->A1->A2->A3->A4->A5->A6->A7->A8->bh:=λa=>b9 u (h (f0 u a))
theorem hV (h:B0->B1->B2->B3->B4->B5->B6->B7->B8->bh)(u:aM):A0->A1->A2->A3->A4->A5->A6->A7->A8->bh:=bE u h
theorem bw (u:aM)(h:B0->B1->B2->B3->B4->B5->B6->B7->B8->B9->bh):A0->A1->A2->A3->A4->A5->A6->A7->A8->A9->bh:=λa=>bE u (h (f0 u a))
theorem eG (h:B0->B1->B2->B3->B4->B5->B6->B7->B8->B9->bh)(u:aM):A0->A1->A2->A3->A4->A5->A6->A7->A8->A9->bh:=bw u h
theorem gA (u:aM)(a0:A0)(a1:A1)(a2:A2)(bb:A3)(bq:A4)(bB:A5)(bK:A6)(bP:A7)(bT:A8)(bY:A9)(h:B0->B1->B2->B3->B4->B5->B6->B7->B8->B9->bh):bh:=bw u h a0 a1 a2 bb bq bB bK bP bT bY
theorem bC (u:aM)(h:B0->B1->B2->B3->B4->B5->B6->B7->B8->B9->iH->bh):A0->A1->A2->A3->A4->A5->A6->A7->A8->A9->iG->bh:=λa=>bw u (h (f0 u a))
theorem qD (h:B0->B1->B2->B3->B4->B5->B6->B7->B8->B9->iH->bh)(u:aM):A0->A1->A2->A3->A4->A5->A6->A7->A8->A9->iG->bh:=bC u h
theorem au (u:aM)(h:B0->B1->B2->B3->B4->B5->B6->B7->B8->B9->iH->ly->bh):A0->A1->A2->A3->A4->A5->A6->A7->A8->A9->iG->lw->bh:=λa=>bC u (h (f0 u a))
theorem iI (h:B0->B1->B2->B3->B4->B5->B6->B7->B8->B9->iH->ly->bh)(u:aM):A0->A1->A2->A3->A4->A5->A6->A7->A8->A9->iG->lw->bh:=au u h
theorem eA (u:aM)(a0:A0)(a1:A1)(a2:A2)(bb:A3)(bq:A4)(bB:A5)(bK:A6)(bP:A7)(bT:A8)(bY:A9)(b4:iG)(cn:lw)(h:B0->B1->B2->B3->B4->B5->B6->B7->B8->B9->iH->ly->bh):bh:=au u h a0 a1 a2 bb bq bB bK bP bT bY b4 cn
end
theorem bc {α:Type}:(∀(xs:List α) (i:Nat) (h:i<xs.toArray.size),xs.toArray[i]'h=xs[i]'(by simpa using h))/\(∀(a:α) (ys:List α) (h:0<(a::ys).length),(a::ys)[0]'h=a)/\(∀(a:α) (ys:List α) (i:Nat) (h:i+1<(a::ys).length),(a::ys)[i+1]'h=ys[i]'(Nat.lt_of_succ_lt_succ h))/\
 (∀(xs:List α) (i:Nat) (a:α),xs.toArray.setIfInBounds i a=(xs.set i a).toArray)/\(∀(x y:α) (xs:List α),(x::xs).set 0 y=y::xs)/\(∀(x y:α) (xs:List α) (i:Nat),(x::xs).set (i+1) y=x::xs.set i y):=
 ⟨λ_ _ _=>List.getElem_toArray ..,λ_ _ _=>rfl,λ_ _ _ _=>rfl,λ_ _ _=>List.setIfInBounds_toArray ..,λ_ _ _=>rfl,λ_ _ _ _=>rfl⟩
theorem aa {P:Program}{a:a6}{q:Prop}(i:Nat)
 (h0:q)
 (h1:aV[i]? =U oi:=by rfl)(hw:Region.wanted oi (yielded aV a.tmps)=true:=by rfl)
 (wt:∀w,S w->(execOp a.eval oi).run P w= .ok (.value v) w:=by intro w qE;(try dsimp only at qE);(try simp only[Cz]at qE);go_simp;first|done|with_reducible rfl)
 (h2:Region.noSelect aV=true:=by kernel_rfl)(nO:Region.free md aV ec i=true:=by decide +kernel)(nP:(Region.ready md aV ec).contains i=true:=by decide +kernel)(nQ:∀(c:List PanicEntry) (a:a6) (w:O),Q (Exit.panic c) (a.put oi.dst v) w->Q (Exit.panic c) a w:=by exact λ_ _ _ h=>h)
 (nR:S w:=by assumption)(jI:q->bJ P md aV Q S cu (ec.setIfInBounds i true) (a.put oi.dst v) w:=by(intro jJ;(try simp only[bc,bg]);exact jJ)):bJ P md aV Q S (cu+1) ec a w:=wpAnyH_take h1 h2 nO nP nQ (Or.inl ⟨hw,wt⟩) nR (jI h0)
theorem dI {P:Program}{a:a6}{q:Prop}(i:Nat)
 (h0:q)
 (h1:aV[i]? =U oi:=by rfl)(hw:Region.wanted oi (yielded aV a.tmps)=false:=by rfl)
 (h2:Region.noSelect aV=true:=by kernel_rfl)(nO:Region.free md aV ec i=true:=by kernel_rfl)(nP:(Region.ready md aV ec).contains i=true:=by kernel_rfl)(nQ:∀(c:List PanicEntry) (a:a6) (w:O),Q (Exit.panic c) (a.put oi.dst undef) w->Q (Exit.panic c) a w:=by exact λ_ _ _ h=>h)
 (nR:S w:=by assumption)(jI:q->bJ P md aV Q S cu (ec.setIfInBounds i true) (a.put oi.dst undef) w:=by(intro jJ;(try simp only[bc,bg]);exact jJ)):bJ P md aV Q S (cu+1) ec a w:=wpAnyH_take h1 h2 nO nP nQ (Or.inr ⟨hw,rfl⟩) nR (jI h0)
theorem ax {P:Program}{jc:a6->O->Prop}{a:a6}{q:Prop}(ww:Shut (∀a w,S w->(S w->bJ P md aV Q S cu ec a w)->jc a w))(wE:S w)(h0:S w->q)
 (jI:q->bJ P md aV Q S cu ec a w:=by(intro jJ;(try simp only[bc,bg]);exact jJ)):jc a w:=ww.out _ _ wE λs=>jI (h0 s)
theorem bZ {P:Program}{o:bt}{a:a6}(i:Nat)
 (h:∀jc:a6->O->Prop,Shut (∀a w,S w->(S w->bJ P md aV Q S cu (ec.setIfInBounds i true) a w)->jc a w)->if Region.wanted o (yielded aV a.tmps)=true then Oper.wp P o a w jc Q else jc (a.put o.dst undef) w)
 (wF:aV[i]? =U o:=by rfl)(nT:Region.ready md aV ec=[i]:=by kernel_rfl):bJ P md aV Q S (cu+1) ec a w:=wpAnyH_ready nT (by simp) (av wF h bm)
theorem ak {P:Program}{a:a6}(rs:List Nat)
 (h:b5 P md aV Q S cu ec a w rs)(nT:Region.ready md aV ec=rs:=by decide +kernel)(wG:rs≠[]:=by simp):bJ P md aV Q S (cu+1) ec a w:=wpAnyH_ready nT wG h
end Go.Proofs.YtjopfpegcckllaaGreatDoor
namespace E
@[irreducible] def B:Nat:=4294967296
theorem bL:B=4294967296:=by unfold B;rfl
theorem b0:0<B:=by rw[bL];omega
theorem fM:1<B:=by rw[bL];omega
theorem lB:B=2^32:=by rw[bL]
def val:List Nat->Nat
 |[]=>0
 |x::f=>x+B*val f
def Ok (l:List Nat):Prop:= ∀a∈l,a<B
def words (n:Nat):List Nat:=if a:n=0 then[]else n%B::words (n/B)
termination_by n
decreasing_by exact Nat.div_lt_self (Nat.pos_of_ne_zero a) fM
theorem en:words 0=[]:=by rw[words];simp
theorem jK (h:n≠0):words n=n%B::words (n/B):=by rw[words];simp[h]
theorem bl (n:Nat):val (words n)=n:=by
 induction n using Nat.strongRecOn with
 |_ n ih=>
  by_cases a:n=0
  .subst a;simp[en,val]
  .rw[jK a,val,ih _ (Nat.div_lt_self (Nat.pos_of_ne_zero a) fM)];exact Nat.mod_add_div n B
theorem gB (n:Nat):Ok (words n):=by
 induction n using Nat.strongRecOn with
 |_ n ih=>
  by_cases a:n=0
  .subst a;simp[en,Ok]
  .rw[jK a];intro c b;rcases List.mem_cons.1 b with rfl|b
   .exact Nat.mod_lt _ b0
   .exact ih _ (Nat.div_lt_self (Nat.pos_of_ne_zero a) fM) c b
theorem g0 :Ok (x::l)↔x<B/\Ok l:=by simp[Ok]
theorem qF:Ok []:=by simp[Ok]
theorem qG {b:List Nat}:Ok (a++b)↔Ok a/\Ok b:=by
 simp only[Ok,List.mem_append];exact⟨λd=>⟨λc e=>d c (.inl e),λc e=>d c (.inr e)⟩,λd c e=>e.elim (d.1 c) (d.2 c)⟩
theorem qH (h:Ok l)(n:Nat):Ok (l.take n):=λb a=>h b (List.mem_of_mem_take a)
theorem qI (h:Ok l)(n:Nat):Ok (l.drop n):=λb a=>h b (List.mem_of_mem_drop a)
theorem lC (h:Ok l)(a:i<l.length):l[i]<B:=h _ (cq a)
theorem cW (h:Ok l)(i:Nat):l.getD i 0<B:=by
 rw[bz]
 by_cases a:i<l.length
 .rw[aT a];exact lC h a
 .rw[List.getElem?_eq_none (by omega)];exact b0
theorem iK (n:Nat):Ok (bA n 0):=λb a=>by
 rw[List.eq_of_mem_replicate a];exact b0
theorem eB (h:Ok l)(i:Nat)(b:x<B):Ok (l.set i x):=λd c=>by
 rcases List.mem_or_eq_of_mem_set c with a|rfl
 .exact h d a
 .exact b
theorem wH {v p:Nat}(a:x<b)(h:v<p):x+b*v<p*b:=by
 have:=Nat.mul_le_mul_left b h;rw[Nat.succ_eq_add_one,Nat.mul_add]at this;rw[Nat.mul_comm p b];omega
theorem wI (b x v p u:Nat):x+b*(v+p*u)=x+b*v+p*b*u:=by grind
theorem jL (a b:List Nat):val (a++b)=val a+B^a.length*val b:=by
 induction a with
 |nil=>simp[val]
 |cons f a ih=>simp only[List.cons_append,val,ih,List.length_cons,Nat.pow_succ];exact wI _ _ _ _ _
theorem hm {l:List Nat}(h:Ok l):val l<B^l.length:=by
 induction l with
 |nil=>simp[val]
 |cons f l ih=>
  have b:=(g0.1 h).1;have a:=ih (g0.1 h).2;simp only[val,List.length_cons,Nat.pow_succ];exact wH b a
theorem jM (n:Nat):val (bA n 0)=0:=by
 induction n with
 |zero=>rfl
 |succ n ih=>simp[List.replicate_succ,val,ih]
theorem val_inj {a b:List Nat}(ha:Ok a)(hb:Ok b)(f:a.length=b.length)(h:val a=val b):a=b:=by
 induction a generalizing b with
 |nil=>exact(List.eq_nil_of_length_eq_zero f.symm).symm
 |cons m a ih=>
  match b,f with
  |y::b,f=>
   have e:=(g0.1 ha).1;have g:=(g0.1 hb).1;simp only[val]at h
   have c:m=y:=by
    have:=congrArg (. %B) h
    simpa[Nat.add_mul_mod_self_left,Nat.mod_eq_of_lt e,Nat.mod_eq_of_lt g]using this
   subst c;have d:val a=val b:=Nat.eq_of_mul_eq_mul_left b0 (by omega);rw[ih (g0.1 ha).2 (g0.1 hb).2 (by simpa using f) d]
def trim:List Nat->List Nat
 |[]=>[]
 |x::f=>match trim f with
  |[]=>if x=0 then[]else[x]
  |y::m=>x::y::m
theorem jN {l:List Nat}(h:Ok l):words (val l)=trim l:=by
 induction l with
 |nil=>simp[val,en,trim]
 |cons f l ih=>
  have c:=(g0.1 h).1;have ih:=ih (g0.1 h).2;simp only[val,trim]
  by_cases a:f+B*val l=0
  .have e:f=0:=by omega
   have b:B*val l=0:=by omega
   have b:val l=0:=by
    rcases Nat.mul_eq_zero.1 b with h|h
    .exact absurd h (by have:=b0;omega)
    .exact h
   rw[b,en]at ih;rw[a,en,<-ih];simp[e]
  .rw[jK a,Nat.add_mul_mod_self_left,Nat.mod_eq_of_lt c,Nat.add_mul_div_left _ _ b0,Nat.div_eq_of_lt c,Nat.zero_add,ih];cases d:trim l with
   |nil=>
    have:val l=0:=by
     have:=bl (val l);rw[ih,d]at this;exact this.symm
    have:f≠0:=by rintro rfl;simp[this]at a
    simp[this]
   |cons A m=>rfl
theorem wJ (h:Ok l):Ok (trim l):=by rw[<-jN h];exact gB _
theorem wK (l:List Nat):trim (l++[0])=trim l:=by
 induction l with
 |nil=>rfl
 |cons f l ih=>simp only[List.cons_append,trim,ih]
theorem wL {l:List Nat}{x:Nat}(b:x≠0):trim (l++[x])=l++[x]:=by
 induction l with
 |nil=>simp[trim,b]
 |cons m l ih=>
  simp only[List.cons_append,trim,ih];cases a:l++[x]with
  |nil=>simp at a
  |cons A f=>rfl
theorem qJ (a:n<l.length)(h:l[n]=0):trim (l.take (n+1))=trim (l.take n):=by
 rw[List.take_succ_eq_append_getElem a,h,wK]
theorem wM (a:n<l.length)(h:l[n]≠0):trim (l.take (n+1))=l.take (n+1):=by
 rw[List.take_succ_eq_append_getElem a,wL h]
theorem qK :words n=[]↔n=0:=by
 constructor
 .intro a
  by_cases b:n=0
  .exact b
  .rw[jK b]at a;cases a
 .rintro rfl;exact en
theorem hq {n:Nat}:(words n).length=0↔n=0:=by rw[List.length_eq_zero_iff,qK]
theorem wN (n:Nat):trim (words n)=words n:=by rw[<-jN (gB n),bl]
theorem nU (l:List Nat):(trim l).length<=l.length:=by
 induction l with
 |nil=>simp[trim]
 |cons m l ih=>
  simp only[trim];cases a:trim l with
  |nil=>simp only[];split<;>simp
  |cons A f=>rw[a]at ih;simpa using ih
theorem nV {n k:Nat}(h:n<B^k):(words n).length<=k:=by
 induction k generalizing n with
 |zero=>simp at h;subst h;simp[en]
 |succ k ih=>
  by_cases a:n=0
  .subst a;simp[en]
  .rw[jK a,List.length_cons];have:n/B<B^k:=Nat.div_lt_of_lt_mul (by rw[Nat.pow_succ,Nat.mul_comm]at h;exact h);have:=ih this;omega
theorem eo :(words n).length<=k↔n<B^k:=
 ⟨λa=>Nat.lt_of_lt_of_le (by have:=hm (gB n);rwa [bl]at this) (Nat.pow_le_pow_right b0 a),nV⟩
theorem eS (h:m<=n):(words m).length<=(words n).length:=
 eo.2 (Nat.lt_of_le_of_lt h (eo.1 (a8 _)))
theorem cr (h:Ok l):(words (val l)).length<=l.length:=by rw[jN h];exact nU l
end E
namespace E
def gC (x y c:Nat):Nat:=(x+y+c)%4294967296
def dQ (x y c:Nat):Nat:=(x+y+c)/4294967296
def fq (x y b:Nat):Nat:=(y+b-x+4294967295)/4294967296
def fN (x y b:Nat):Nat:=x+4294967296*fq x y b-y-b
def gD (x y c d:Nat):Nat:=(x*y+c+d)/4294967296
def mulL (x y c d:Nat):Nat:=(x*y+c+d)%4294967296
def ft (h l y:Nat):Nat:=(h*4294967296+l)/y
def hr (h l y:Nat):Nat:=(h*4294967296+l)%y
theorem jd (x y c:Nat):gC x y c<B:=by rw[bL];unfold gC;omega
theorem add_eq (x y c:Nat):gC x y c+B*dQ x y c=x+y+c:=by rw[bL];unfold gC dQ;omega
theorem je (b:x<B)(d:y<B)(a:c<=1):dQ x y c<=1:=by rw[bL]at*;unfold dQ;omega
theorem nW (a:y<B)(hb:b<=1):fq x y b<=1:=by rw[bL]at*;unfold fq;omega
theorem nX (a:x<B)(c:y<B)(hb:b<B):fN x y b<B:=by rw[bL]at*;unfold fN fq;omega
theorem nY (x y b:Nat):fN x y b+y+b=x+B*fq x y b:=by rw[bL];unfold fN fq;omega
theorem iL (x y c d:Nat):mulL x y c d<B:=by rw[bL];unfold mulL;omega
theorem mul_eq (x y c d:Nat):mulL x y c d+B*gD x y c d=x*y+c+d:=by
 rw[bL];unfold mulL gD;omega
theorem qL (a:x<B)(b:y<B):x*y<=18446744065119617025:=by
 rw[bL]at*;exact aQ (Nat.mul_le_mul (show x<=4294967295 by omega) (show y<=4294967295 by omega)) (by omega)
theorem lD (a:x<B)(b:y<B)(e:c<B)(f:d<B):gD x y c d<B:=by
 have:=qL a b;rw[bL]at*;unfold gD;omega
theorem qM (h l y:Nat):ft h l y*y+hr h l y=h*B+l:=by
 rw[bL];unfold ft hr;rw[Nat.mul_comm];exact Nat.div_add_mod _ _
theorem lE {l:Nat}(a:0<y):hr h l y<y:=Nat.mod_lt _ a
theorem nZ {l:Nat}(b:l<B)(a:h<y):ft h l y<B:=by
 rw[bL]at*;unfold ft
 refine Nat.div_lt_of_lt_mul ?_;have:(h+1)*4294967296<=y*4294967296:=Nat.mul_le_mul_right _ a;omega
def bD (n:Nat):Nat:=if a:n=0 then 0 else bD (n/2)+1
termination_by n
decreasing_by omega
theorem jO:bD 0=0:=by rw[bD];simp
theorem lF (h:n≠0):bD n=bD (n/2)+1:=by rw[bD];simp[h]
theorem qN (s:Nat):∀n,n/2^s≠0->bD n=bD (n/2^s)+s:=by
 induction s with
 |zero=>intro n _;simp
 |succ s ih=>
  intro n b;have a:n/2^(s+1)=n/2/2^s:=by rw[Nat.pow_succ,Nat.mul_comm,Nat.div_div_eq_div_mul]
  have c:n≠0:=by rintro rfl;simp at b
  rw[lF c,ih (n/2) (by rw[<-a];exact b),a];omega
theorem lG (k:Nat):∀n,bD n<=k↔n<2^k:=by
 induction k with
 |zero=>
  intro n
  by_cases a:n=0
  .subst a;simp[jO]
  .rw[lF a];simp;omega
 |succ k ih=>
  intro n
  by_cases a:n=0
  .subst a;simp[jO,Nat.two_pow_pos]
  .rw[lF a,Nat.pow_succ];have:=ih (n/2);omega
theorem wO {n:Nat}(h:n<2):bD n=n:=by
 match n,h with
 |0,_=>exact jO
 |1,_=>rw[lF (by omega)];simp[jO]
def tz (n:Nat):Nat:=if a:n=0\/n%2=1 then 0 else tz (n/2)+1
termination_by n
decreasing_by omega
end E
namespace E
theorem eT (l:List Nat)(i:Nat):val (l.take (i+1))=val (l.take i)+B^i*l.getD i 0:=by
 by_cases a:i<l.length
 .rw[List.take_succ_eq_append_getElem a,jL,List.length_take,Nat.min_eq_left (by omega),bz,aT a];simp[val]
 .rw[List.take_of_length_le (by omega),List.take_of_length_le (by omega),bz,List.getElem?_eq_none (by omega)];simp
theorem jP (l:List Nat)(h:l.length<=n):val (l.take n)=val l:=by rw[List.take_of_length_le h]
theorem f4 (h:i<o.length)(x:Nat):val ((o.set i x).take (i+1))=val (o.take i)+B^i*x:=by
 rw[eT,bz,List.getElem?_set_self h]
 congr 2
 rw[List.take_set,List.set_eq_of_length_le (by rw[List.length_take];omega)]
def dk (a b:Nat):Int:=if a<b then-1 else if b<a then 1 else 0
theorem jf {a:Nat}(h:a<b):dk a b= -1:=by simp[dk,h]
theorem n5 {a:Nat}(h:b<a):dk a b=1:=by simp[dk,h];omega
theorem lH {a:Nat}(h:a=b):dk a b=0:=by simp[dk,h]
theorem n6 {a b:Nat}:dk a b<0↔a<b:=by unfold dk;split<;>(try split)<;>omega
theorem lI (a b:Nat):a<b/\dk a b= -1\/a=b/\dk a b=0\/b<a/\dk a b=1:=by
 rcases Nat.lt_trichotomy a b with h|h|h
 .exact .inl ⟨h,jf h⟩
 .exact .inr (.inl ⟨h,lH h⟩)
 .exact .inr (.inr ⟨h,n5 h⟩)
def iM (a b:Nat):Nat:=if a<b then b-a else a-b
theorem wP {a:Nat}(h:a<b):iM a b=b-a:=if_pos h
theorem wQ {a:Nat}(h:b<=a):iM a b=a-b:=if_neg (by omega)
theorem qO {m n:Nat}(h:(words m).length<(words n).length):m<n:=by
 rcases Nat.lt_or_ge m n with a|a
 .exact a
 .have:=eS a;omega
theorem n7 (h:k<l.length):val l=val (l.take k)+B^k*(l[k]+B*val (l.drop (k+1))):=by
 have a:l=l.take k++l[k]::l.drop (k+1):=by rw[<-List.drop_eq_getElem_cons h,List.take_append_drop]
 calc val l=val (l.take k++l[k]::l.drop (k+1)):=congrArg val a
  _=_:=by rw[jL,List.length_take,Nat.min_eq_left (by omega),val]
theorem wR {p a:Nat}(ha:a<p)(h:x<y)(d:r<=s):a+p*(x+B*r)<b+p*(y+B*s):=by
 have c:p*(x+B*r+1)<=p*(y+B*s):=Nat.mul_le_mul_left _ (by have:=Nat.mul_le_mul_left B d;omega);rw[Nat.mul_add p (x+B*r) 1]at c;omega
theorem qP {b:List Nat}(ha:Ok a)(e:k<a.length)(f:k<b.length)(d:a.drop (k+1)=b.drop (k+1))(h:a[k]<b[k]):val a<val b:=by
 rw[n7 e,n7 f,d];have c:=hm (qH ha k);rw[List.length_take,Nat.min_eq_left (by omega)]at c;exact wR c h (a8 _)
theorem wS {b:List Nat}(d:k<a.length)(e:k<b.length)(c:a.drop (k+1)=b.drop (k+1))(h:a[k]=b[k]):a.drop k=b.drop k:=by
 rw[List.drop_eq_getElem_cons d,List.drop_eq_getElem_cons e,c,h]
def jg (a b o:List Nat)(i c:Nat):Prop:=c<=1/\val (o.take i)+B^i*c=val (a.take i)+val (b.take i)
theorem qQ (a b o:List Nat):jg a b o 0 0:=⟨by omega,by simp[val]⟩
theorem wT {p v u:Nat}(h:s+B*k=x+y+c)(a:v+p*c=u+t):v+p*s+p*B*k=u+p*x+(t+p*y):=by
 have:p*(s+B*k)=p*(x+y+c):=by rw[h]
 rw[Nat.mul_add,Nat.mul_add,Nat.mul_add,<-Nat.mul_assoc]at this;omega
theorem qR {b:List Nat}(d:i<o.length)(e:a.getD i 0<B)(f:b.getD i 0<B)(h:jg a b o i c):
 jg a b (o.set i (gC (a.getD i 0) (b.getD i 0) c)) (i+1) (dQ (a.getD i 0) (b.getD i 0) c):=by
 refine⟨je e f h.1,?_⟩;rw[f4 d,eT a,eT b,Nat.pow_succ];exact wT (add_eq _ _ _) h.2
theorem qS {b:List Nat}(ha:a.length<=n)(hb:b.length<=n)(e:o.length=n+1)(h:jg a b o n c):val (o.set n c)=val a+val b:=by
 have d:=h.2;rw[jP a ha,jP b hb]at d;rw[<-d,<-f4 (by omega),List.take_of_length_le (by simp;omega)]
def jQ (a b o:List Nat)(i c:Nat):Prop:=c<=1/\val (o.take i)+val (b.take i)=val (a.take i)+B^i*c
theorem wU (a b o:List Nat):jQ a b o 0 0:=⟨by omega,by simp[val]⟩
theorem wV {p v u:Nat}(h:d+y+c=x+B*k)(a:v+t=u+p*c):v+p*d+(t+p*y)=u+p*x+p*B*k:=by
 have:p*(d+y+c)=p*(x+B*k):=by rw[h]
 rw[Nat.mul_add,Nat.mul_add,Nat.mul_add,<-Nat.mul_assoc]at this;omega
theorem wW {b:List Nat}(d:i<o.length)(e:b.getD i 0<B)(h:jQ a b o i c):
 jQ a b (o.set i (fN (a.getD i 0) (b.getD i 0) c)) (i+1) (fq (a.getD i 0) (b.getD i 0) c):=by
 refine⟨nW e h.1,?_⟩;rw[f4 d,eT a,eT b,Nat.pow_succ];exact wV (nY _ _ _) h.2
theorem wX {b:List Nat}(j:Ok o)(i:o.length=a.length)(hb:b.length<=a.length)(k:val b<=val a)(h:jQ a b o a.length c):val o=val a-val b/\c=0:=by
 have e:=h.2;rw[jP a (a8 _),jP b hb,jP o (by omega)]at e;have f:=hm j;rw[i]at f
 have g:c=0:=by
  rcases Nat.eq_zero_or_pos c with d|d
  .exact d
  .have:B^a.length*1<=B^a.length*c:=Nat.mul_le_mul_left _ d;omega
 subst g;rw[Nat.mul_zero]at e;exact⟨by omega,rfl⟩
def e6 (a:List (List Nat)):Nat:=(a.map val).sum
theorem wY:e6 []=0:=rfl
theorem wZ (h:k<ls.length):e6 (ls.take (k+1))=e6 (ls.take k)+val ls[k]:=by
 unfold e6;rw[List.take_succ_eq_append_getElem h,List.map_append,List.sum_append];simp only[List.map_cons,List.map_nil,List.sum_cons,List.sum_nil,Nat.add_zero]
theorem w8 (a:List (List Nat))(k:Nat):e6 (a.take k)<=e6 a:=by
 unfold e6
 conv=>rhs;rw[<-List.take_append_drop k a]
 rw[List.map_append,List.sum_append];omega
theorem w9 (a:List (List Nat))(k:Nat):(words (e6 (a.take k))).length<=(words (e6 a)).length:=eS (w8 a k)
theorem qT:2<=B:=by rw[bL];omega
theorem gE (l:List Nat)(k:Nat):val (l.drop k)=l.getD k 0+B*val (l.drop (k+1)):=by
 by_cases a:k<l.length
 .rw[List.drop_eq_getElem_cons a,val,bz,aT a];rfl
 .rw[List.drop_eq_nil_of_le (by omega),List.drop_eq_nil_of_le (by omega),bz,List.getElem?_eq_none (by omega)];simp[val]
theorem gF (l:List Nat)(k:Nat):val l=val (l.take k)+B^k*val (l.drop k):=by
 by_cases b:k<=l.length
 .have a:=jL (l.take k) (l.drop k);rw[List.take_append_drop,List.length_take,Nat.min_eq_left b]at a;exact a
 .rw[List.take_of_length_le (by omega),List.drop_eq_nil_of_le (by omega)];simp[val]
theorem jR (h:Ok l)(k:Nat):val (l.take k)<B^k:=
 Nat.lt_of_lt_of_le (hm (qH h k)) (Nat.pow_le_pow_right b0 (by rw[List.length_take];omega))
end E
namespace E
theorem hX (k:Nat):B^k=2^(32*k):=by rw[lB,<-Nat.pow_mul]
theorem n8 (l:List Nat)(h:Ok l)(k:Nat):val l/B^k=val (l.drop k):=by
 rw[gF l k,Nat.add_mul_div_left _ _ (Nat.pow_pos b0),Nat.div_eq_of_lt (jR h k),Nat.zero_add]
theorem n9 (k:Nat)(h:k<32):B=2^k*(2*2^(31-k)):=by
 rw[lB,<-Nat.mul_assoc,Nat.mul_comm (2^k) 2,Nat.mul_assoc,<-Nat.pow_add,show k+(31-k)=31 from by omega]
theorem xa (v x k:Nat)(b:v<2^k)(c:x≠0):bD (v+2^k*x)=k+bD x:=by
 have a:(v+2^k*x)/2^k=x:=by rw[Nat.add_mul_div_left _ _ (Nat.two_pow_pos k),Nat.div_eq_of_lt b,Nat.zero_add]
 rw[qN k _ (by rw[a];exact c),a,Nat.add_comm]
theorem qU (n:Nat)(h:0<(words n).length):(words n).getD ((words n).length-1) 0≠0:=by
 intro b;have e:=wN n;have c:(words n).length-1<(words n).length:=by omega
 rw[bz,aT c]at b;have a:=qJ c b;rw[show(words n).length-1+1=(words n).length from by omega,co,e]at a;have d:=nU ((words n).take ((words n).length-1));rw[<-a,List.length_take]at d;omega
theorem qV (n:Nat)(h:0<(words n).length):bD n=32*((words n).length-1)+bD ((words n).getD ((words n).length-1) 0):=by
 have hw:=bl n;have c:(words n).length-1<(words n).length:=by omega
 have a:=n7 c;rw[show(words n).length-1+1=(words n).length from by omega,List.drop_length,val,Nat.mul_zero,Nat.add_zero,hw]at a;have d:=jR (gB n) ((words n).length-1);have b:=qU n h;have e:(words n).getD ((words n).length-1) 0=(words n)[(words n).length-1]:=by rw[bz,aT c];rfl
 rw[e]at b|-;generalize(words n)[(words n).length-1]=g at*;generalize val ((words n).take ((words n).length-1))=f at*;generalize(words n).length-1=k at*;rw[hX]at a d;rw[a,xa f g (32*k) d b]
def jS (a o:List Nat)(w b i:Nat):Prop:=o.getD (w+i) 0<2^b/\val (o.take (w+i+1))=B^w*(2^b*val (a.take i))
theorem xb (a:List Nat)(n w b:Nat):jS a (bA n 0) w b 0:=by
 refine⟨?_,?_⟩
 .rw[bz,List.getElem?_replicate]
  split<;>exact Nat.two_pow_pos b
 .rw[List.take_replicate,jM];simp[val]
theorem qW (hb:b<32):x*2^b%B%2^b=0:=by
 have a:=n9 b hb
 have c:x*2^b%B%2^b=x*2^b%2^b:=by
  rw[a,Nat.mod_mul_right_mod]
 rw[c,Nat.mul_mod_left]
theorem xc (hb:b<32)(j:h<2^b):h+x*2^b%B<B:=by
 have e:=qW (x:=x) hb;have a:x*2^b%B<B:=Nat.mod_lt _ b0;obtain⟨d,g⟩:=Nat.dvd_of_mod_eq_zero e;have c:=n9 b hb;rw[g]at a|-;generalize 2*2^(31-b)=q at c;rw[c]at a|-;have i:d<q:=Nat.lt_of_mul_lt_mul_left a;have f:2^b*(d+1)<=2^b*q:=Nat.mul_le_mul_left _ i;rw[Nat.mul_add]at f;omega
theorem xd {w:Nat}(hb:b<32)(l:a.getD i 0<B)(e:w+i+1<o.length)(h:jS a o w b i):
 jS a ((o.set (w+i) (o.getD (w+i) 0+a.getD i 0*2^b%B)).set (w+i+1) (a.getD i 0*2^b/B)) w b (i+1):=by
 obtain⟨m,d⟩:=h;refine⟨?_,?_⟩
 .rw[show w+(i+1)=w+i+1 from by omega,bz,List.getElem?_set_self (by rw[List.length_set];exact e)];show a.getD i 0*2^b/B<2^b;refine Nat.div_lt_of_lt_mul ?_;exact Nat.mul_lt_mul_of_pos_right l (Nat.two_pow_pos b)
 .rw[show w+(i+1)+1=w+i+1+1 from by omega,f4 (by rw[List.length_set];exact e),f4 (by omega),eT a i];rw[eT o (w+i)]at d;have f:=Nat.mod_add_div (a.getD i 0*2^b) B;generalize a.getD i 0*2^b%B=r at*;generalize n:a.getD i 0*2^b/B=q at*;have c:B^(w+i)*(r+B*q)=B^(w+i)*(a.getD i 0*2^b):=by rw[f]
  have g:B^(w+i+1)=B^(w+i)*B:=Nat.pow_succ _ _;have j:B^(w+i)=B^w*B^i:=Nat.pow_add _ _ _;rw[g,Nat.mul_add,Nat.mul_assoc (B^(w+i)) B q];rw[Nat.mul_add]at c;rw[Nat.mul_add,Nat.mul_add,<-d];have k:B^w*(2^b*(B^i*a.getD i 0))=B^(w+i)*(a.getD i 0*2^b):=by rw[j];ac_rfl
  rw[k,<-c]
  ac_rfl
theorem xe {w:Nat}(d:o.length=w+a.length+1)(h:jS a o w b a.length):val o=val a*2^(32*w+b):=by
 have c:=h.2;rw[List.take_of_length_le (by omega),co,hX,<-Nat.mul_assoc,<-Nat.pow_add]at c;rw[c,Nat.mul_comm]
def hY (a o:List Nat)(w b i:Nat):Prop:=val (o.take i)=val a/2^(32*w+b)%B^i
theorem xf (a o:List Nat)(w b:Nat):hY a o w b 0:=by simp[hY,val,Nat.mod_one]
theorem xg (h:Ok a){w:Nat}(hb:b<32):val a/2^(32*w+b)/B^i%B=(a.getD (w+i) 0+B*a.getD (w+i+1) 0)/2^b%B:=by
 have g:val a/2^(32*w+b)/B^i=val (a.drop (w+i))/2^b:=by
  rw[Nat.div_div_eq_div_mul,Nat.pow_add,<-hX,Nat.mul_assoc,Nat.mul_comm (2^b),<-Nat.mul_assoc,<-Nat.pow_add,<-Nat.div_div_eq_div_mul,n8 a h]
 rw[g,gE,gE a (w+i+1)];generalize a.getD (w+i) 0=d;generalize a.getD (w+i+1) 0=e;generalize val (a.drop (w+i+1+1))=c;have f:=n9 b hb
 have j:d+B*(e+B*c)=(d+B*e)+2^b*(B*(2*2^(31-b)*c)):=by
  rw[Nat.mul_add,<-Nat.add_assoc]
  congr 1
  conv=>lhs;rw[show B*(B*c)=B*B*c from by rw[Nat.mul_assoc]]
  conv=>lhs;arg 1;arg 2;rw[f]
  ac_rfl
 rw[j,Nat.add_mul_div_left _ _ (Nat.two_pow_pos b),Nat.add_mul_mod_self_left]
theorem xh (h:Ok a){w:Nat}(hb:b<32)(d:i<o.length)(c:hY a o w b i):hY a (o.set i ((a.getD (w+i) 0+B*a.getD (w+i+1) 0)/2^b%B)) w b (i+1):=by
 unfold hY at c|-;rw[f4 d,c,<-xg h hb,Nat.pow_succ,Nat.mod_mul]
theorem xj (h:Ok a){w:Nat}(hw:w<=a.length)(d:o.length=a.length-w)(c:hY a o w b (a.length-w)):val o=val a/2^(32*w+b):=by
 unfold hY at c;rw[List.take_of_length_le (by omega)]at c;rw[c];refine Nat.mod_eq_of_lt ?_;refine Nat.lt_of_le_of_lt (Nat.div_le_div_left (Nat.pow_le_pow_right (by omega) (Nat.le_add_right (32*w) b)) (Nat.two_pow_pos _)) ?_;rw[<-hX];refine Nat.div_lt_of_lt_mul ?_;rw[<-Nat.pow_add,show w+(a.length-w)=a.length from by omega];exact hm h
theorem xk {a:List Nat}(h:Ok a){w b:Nat}(hw:a.length<=w):val a/2^(32*w+b)=0:=by
 refine Nat.div_eq_of_lt (Nat.lt_of_lt_of_le (hm h) ?_);rw[hX];exact Nat.pow_le_pow_right (by omega) (by omega)
theorem qX (h:Ok l):val l<2^(32*l.length):=by rw[<-hX];exact hm h
end E
namespace E
def jT (a o p:List Nat)(x c k i cy:Nat):Prop:=
 cy<B/\p.length=o.length/\p.drop (k+i)=o.drop (k+i)/\val (p.take (k+i))+B^(k+i)*cy=val (o.take (k+i))+B^k*(x*val (a.take i)+c)
theorem xl (a o:List Nat)(x c k:Nat)(b:c<B):jT a o o x c k 0 c:=⟨b,rfl,rfl,by simp[val]⟩
theorem jU (h:p.drop k=o.drop k):p.getD k 0=o.getD k 0:=by
 have:=congrArg (λa:List Nat=>a.getD 0 0) h
 simpa[bz]using this
theorem xm {u z q v:Nat}(d:m+b*h=x*y+z+c)(e:u+P*c=t+K):u+P*m+P*b*h=t+P*z+(K+P*(x*y)):=by
 have a:P*m+P*b*h=P*(m+b*h):=by rw[Nat.mul_add,Nat.mul_assoc]
 rw[Nat.add_assoc,a,d];rw[Nat.mul_add,Nat.mul_add];omega
theorem xn (C:k+i<o.length)(r:Ok p)(s:x<B)(y:a.getD i 0<B)(h:jT a o p x c k i cy):
 jT a o (p.set (k+i) (mulL x (a.getD i 0) (p.getD (k+i) 0) cy)) x c k (i+1) (gD x (a.getD i 0) (p.getD (k+i) 0) cy):=by
 obtain⟨l,m,d,n⟩:=h;have z:=cW r (k+i);refine⟨lD s y z l,by rw[List.length_set,m],?_,?_⟩
 .have e:∀b:List Nat,b.drop (k+i+1)=(b.drop (k+i)).drop 1:=λb=>by rw[List.drop_drop]
  rw[<-Nat.add_assoc,List.drop_set_of_lt (by omega),e,d,<-e]
 .rw[<-Nat.add_assoc,f4 (by omega),eT o,eT a,<-jU d];have f:=mul_eq x (a.getD i 0) (p.getD (k+i) 0) cy;generalize mulL x (a.getD i 0) (p.getD (k+i) 0) cy=D at*;generalize gD x (a.getD i 0) (p.getD (k+i) 0) cy=A at*;have g:=xm (P:=B^(k+i)) (u:=val (p.take (k+i))) (t:=val (o.take (k+i))) (q:=0) (v:=0) f n;rw[Nat.pow_succ,g]
  have j:B^k*(x*(val (a.take i)+B^i*a.getD i 0)+c)=B^k*(x*val (a.take i)+c)+B^(k+i)*(x*a.getD i 0):=by
   rw[Nat.pow_add,Nat.mul_add x,Nat.add_right_comm,Nat.mul_add (B^k)]
   congr 1
   ac_rfl
  rw[j]
theorem xo (h:val (o.drop k)=0):o.getD k 0=0/\val (o.drop (k+1))=0:=by
 rw[gE]at h;have b:=b0;refine⟨by omega,?_⟩;rcases Nat.eq_zero_or_pos (val (o.drop (k+1)))with a|a
 .exact a
 .have:=Nat.mul_pos b a;omega
theorem xp (l:k+a.length<o.length)(d:val (o.drop (k+a.length))=0)(h:jT a o p x c k a.length cy):
 val (p.set (k+a.length) cy)=val o+B^k*(x*val a+c)/\val ((p.set (k+a.length) cy).drop (k+a.length+1))=0:=by
 obtain⟨i,j,f,g⟩:=h;obtain⟨m,e⟩:=xo d
 have b:(p.set (k+a.length) cy).drop (k+a.length+1)=o.drop (k+a.length+1):=by
  rw[List.drop_set_of_lt (by omega),<-List.drop_drop,f,List.drop_drop]
 refine⟨?_,by rw[b];exact e⟩;rw[gF (p.set (k+a.length) cy) (k+a.length+1),b,e,Nat.mul_zero,Nat.add_zero,f4 (by omega),g,co];rw[gF o (k+a.length),d,Nat.mul_zero,Nat.add_zero]
def lJ (a b o:List Nat)(i:Nat):Prop:=val o=val a*val (b.take i)/\val (o.drop (i+a.length))=0
theorem xq (a b:List Nat)(n:Nat):lJ a b (bA n 0) 0:=by
 refine⟨by rw[jM];simp[val],?_⟩;rw[List.drop_replicate,jM]
theorem xr {b o':List Nat}(h:lJ a b o i)(h1:val o'=val o+B^i*(b.getD i 0*val a+0))(h2:val (o'.drop (i+a.length+1))=0):lJ a b o' (i+1):=by
 refine⟨?_,by rw[show i+1+a.length=i+a.length+1 from by omega];exact h2⟩;rw[Nat.add_zero]at h1;rw[h1,h.1,eT,Nat.mul_add]
 congr 1
 ac_rfl
theorem g1 {a:Nat}(ha:(words a).length<=m)(hb:(words b).length<=n):(words (a*b)).length<=m+n:=by
 rw[eo]at*;rw[Nat.pow_add];exact Nat.mul_lt_mul'' ha hb
theorem hs:(words 1).length<=1:=by rw[eo,Nat.pow_one,bL];omega
end E
namespace E
theorem qY (h:n=q*x+r)(a:r<x):q=n/x/\r=n%x:=by
 subst h;have b:0<x:=by omega
 constructor
 .rw[Nat.mul_comm,Nat.mul_add_div b,Nat.div_eq_of_lt a,Nat.add_zero]
 .rw[Nat.mul_comm,Nat.mul_add_mod,Nat.mod_eq_of_lt a]
theorem qZ {q:List Nat}(a:k<q.length)(x:Nat):val ((q.set k x).drop k)=x+B*val (q.drop (k+1)):=by
 rw[gE,bz,List.getElem?_set_self a,List.drop_set_of_lt (by omega)];rfl
def jV (a q:List Nat)(x k r:Nat):Prop:=r<x/\q.length=a.length/\val (a.drop k)=val (q.drop k)*x+r
theorem xt (a:List Nat)(b:0<x):jV a (bA a.length 0) x a.length 0:=
 ⟨b,List.length_replicate,by rw[List.drop_length,List.drop_replicate,Nat.sub_self];simp[val]⟩
theorem xu {iN:Nat}(h:d*x+iN=r*b+y):y+b*(bi*x+r)=(d+b*bi)*x+iN:=by grind
theorem xv {q:List Nat}(e:k<a.length)(h:jV a q x (k+1) r):
 jV a (q.set k (ft r (a.getD k 0) x)) x k (hr r (a.getD k 0) x):=by
 obtain⟨d,b,c⟩:=h;refine⟨lE (by omega),by rw[List.length_set,b],?_⟩;rw[qZ (by omega),gE a k,c];exact xu (qM _ _ _)
theorem xw {q:List Nat}(h:jV a q x 0 r):val q=val a/x/\r=val a%x:=by
 obtain⟨c,_,b⟩:=h;rw[List.drop_zero,List.drop_zero]at b;exact qY b c
def eH (b a a0 d c:Nat):Nat:=min (B-1) (((b*B+a)*B+a0)/(d*B+c))
theorem xx (b a a0 d c:Nat):eH b a a0 d c<B:=by
 have:=b0;have:eH b a a0 d c<=B-1:=Nat.min_le_left _ _;omega
theorem lK {T:Nat}(h:q*b1+r=T):q*b6<=r*b+a0↔q*(b1*b+b6)<=T*b+a0:=by
 subst h;have a:q*(b1*b+b6)=q*b1*b+q*b6:=by grind
 have c:(q*b1+r)*b+a0=q*b1*b+(r*b+a0):=by grind
 rw[a,c];omega
def g2 (b a a0 c d q r:Nat):Prop:=q<B/\r<B/\q*c+r=b*B+a/\eH b a a0 c d<=q
theorem oa (hb:0<b1)(b:q<B)(h:q*(b1*B+b6)<=(a2*B+a1)*B+a0):q<=eH a2 a1 a0 b1 b6:=by
 have a:0<b1*B:=Nat.mul_pos hb b0;refine Nat.le_min.2 ⟨by omega,(Nat.le_div_iff_mul_le (by omega)).2 h⟩
theorem q0 {a2 a1 a0 b1 b6:Nat}:eH a2 a1 a0 b1 b6*(b1*B+b6)<=(a2*B+a1)*B+a0:=
 aQ (Nat.mul_le_mul_right _ (Nat.min_le_right _ _)) (Nat.div_mul_le_self _ _)
theorem xy (h:a2<b1)(e:a1<B)(k:b1<B)(j:a0<B):g2 a2 a1 a0 b1 b6 (ft a2 a1 b1) (hr a2 a1 b1):=by
 have c:=qM a2 a1 b1;have l:hr a2 a1 b1<b1:=lE (by omega);refine⟨nZ e h,by omega,c,?_⟩;have f:= @q0 a2 a1 a0 b1 b6;generalize eH a2 a1 a0 b1 b6=b at*;rcases Nat.lt_or_ge (ft a2 a1 b1) b with a|a
 .exfalso;have g:(ft a2 a1 b1+1)*(b1*B)<=b*(b1*B+b6):=Nat.mul_le_mul a (by omega);have i:(ft a2 a1 b1+1)*(b1*B)=(ft a2 a1 b1*b1+b1)*B:=by grind
  have d:(a2*B+a1+1)*B<=(ft a2 a1 b1*b1+b1)*B:=Nat.mul_le_mul_right _ (by omega);rw[Nat.add_mul (a2*B+a1) 1 B,Nat.one_mul]at d;omega
 .exact a
theorem xz (b:a1+b1<B):g2 b1 a1 a0 b1 b6 (B-1) (a1+b1):=by
 have a:=b0;refine⟨by omega,b,?_,Nat.min_le_left _ _⟩;have:(B-1)*b1+b1=b1*B:=by rw[<-Nat.succ_mul,Nat.succ_eq_add_one,Nat.sub_add_cancel a,Nat.mul_comm]
 omega
theorem q6 (a:x<B)(b:y<B):x*y<B*B:=Nat.mul_lt_mul'' a b
theorem xA (hb:0<b1)(c:b6<B)(d:B<=a1+b1):eH b1 a1 a0 b1 b6=B-1:=by
 have b:=b0;refine Nat.le_antisymm (Nat.min_le_left _ _) (oa hb (by omega) ?_);have e:(B-1)*b1+b1=b1*B:=by rw[<-Nat.succ_mul,Nat.succ_eq_add_one,Nat.sub_add_cancel b,Nat.mul_comm]
 have a:(B-1)*b1+(a1+b1)=b1*B+a1:=by omega
 rw[<-lK a];have f:(B-1)*b6<B*B:=q6 (by omega) c;have g:B*B<=(a1+b1)*B:=Nat.mul_le_mul_right _ d;omega
theorem q7 (hb:0<b1)(h:g2 a2 a1 a0 b1 b6 q r)(d:q*b6<=r*B+a0):q=eH a2 a1 a0 b1 b6:=by
 obtain⟨a,_,b,c⟩:=h;exact Nat.le_antisymm (oa hb a ((lK b).1 d)) c
theorem lL (h:g2 a2 a1 a0 b1 b6 q r)(k:r*B+a0<q*b6):
 1<=q/\q-1<B/\(q-1)*b1+(r+b1)=a2*B+a1/\eH a2 a1 a0 b1 b6<=q-1:=by
 obtain⟨g,i,d,j⟩:=h
 have b:1<=q:=by
  rcases Nat.eq_zero_or_pos q with a|a
  .subst a;omega
  .exact a
 refine⟨b,by omega,?_,?_⟩
 .have:(q-1)*b1+b1=q*b1:=by rw[<-Nat.succ_mul,Nat.succ_eq_add_one,Nat.sub_add_cancel b]
  omega
 .have e:¬q*(b1*B+b6)<=(a2*B+a1)*B+a0:=λh=>by
   have:=(lK d).2 h;omega
  have f:= @q0 a2 a1 a0 b1 b6;rcases Nat.lt_or_ge (eH a2 a1 a0 b1 b6) q with c|c
  .omega
  .exact absurd (aQ (Nat.mul_le_mul_right _ c) f) e
theorem q8 (h:g2 a2 a1 a0 b1 b6 q r)(d:r*B+a0<q*b6)(e:r+b1<B):g2 a2 a1 a0 b1 b6 (q-1) (r+b1):=by
 obtain⟨f,a,b,c⟩:=lL h d;exact⟨a,e,b,c⟩
theorem q9 (hb:0<b1)(d:b6<B)(h:g2 a2 a1 a0 b1 b6 q r)(e:r*B+a0<q*b6)(f:B<=r+b1):q-1=eH a2 a1 a0 b1 b6:=by
 obtain⟨g,a,b,c⟩:=lL h e;refine Nat.le_antisymm (oa hb a ((lK b).1 ?_)) c;have i:(q-1)*b6<B*B:=q6 a d;have j:B*B<=(r+b1)*B:=Nat.mul_le_mul_right _ f;omega
theorem ra {iJ lo:Nat}(a:lo+B*iJ=m)(b:lo<B)(ha:a0<B):m<=r*B+a0↔iJ<r\/iJ=r/\lo<=a0:=by
 subst a;rw[Nat.mul_comm B iJ];rcases Nat.lt_trichotomy iJ r with h|h|h
 .have:(iJ+1)*B<=r*B:=Nat.mul_le_mul_right _ h;rw[Nat.add_mul,Nat.one_mul]at this;exact⟨λ_=> .inl h,λ_=>by omega⟩
 .subst h;exact⟨λh=> .inr ⟨rfl,by omega⟩,λh=>by omega⟩
 .have:(r+1)*B<=iJ*B:=Nat.mul_le_mul_right _ h;rw[Nat.add_mul,Nat.one_mul]at this;exact⟨λh=>by omega,λh=>by omega⟩
theorem xB {aM fu bD A3 ul:Nat}(hb:0<b)(e:aM<b*bi)(j:bi=fu*P+bD)(t:bD<P)(s:aM=A3*P+ul)(v:ul<P)(l:b<=fu)(m:g=min (b-1) (A3/fu)):
 aM/bi<=g/\g<=aM/bi+1:=by
 have k:0<bi:=by
  rcases Nat.eq_zero_or_pos bi with h|h
  .rw[h]at e;omega
  .exact h
 have u:aM/bi<b:=Nat.div_lt_of_lt_mul (by rw[Nat.mul_comm];exact e);subst m;constructor
 .refine Nat.le_min.2 ⟨by omega,(Nat.le_div_iff_mul_le (by omega)).2 ?_⟩;have c:aM/bi*bi<=aM:=Nat.div_mul_le_self _ _;generalize aM/bi=q at*;have f:q*(fu*P)<=q*bi:=Nat.mul_le_mul_left _ (by omega)
  have d:(q*fu)*P<(A3+1)*P:=by
   rw[Nat.add_mul,Nat.one_mul,Nat.mul_assoc];omega
  have:=Nat.lt_of_mul_lt_mul_right d;omega
 .have n:min (b-1) (A3/fu)<=b-1:=Nat.min_le_left _ _;have c:min (b-1) (A3/fu)*fu<=A3:=aQ (Nat.mul_le_mul_right _ (Nat.min_le_right _ _)) (Nat.div_mul_le_self _ _);generalize min (b-1) (A3/fu)=g at*;have f:g*bi=g*fu*P+g*bD:=by rw[j,Nat.mul_add,Nat.mul_assoc]
  have d:g*fu*P<=A3*P:=Nat.mul_le_mul_right _ c;have o:g*bD<=b*P:=Nat.mul_le_mul (by omega) (by omega);have p:b*P<=fu*P:=Nat.mul_le_mul_right _ l;have r:g*bi<=aM+bi:=by omega
  rcases Nat.eq_zero_or_pos g with a|a
  .rw[a];exact bn _
  .have i:(g-1)*bi<=aM:=by
    have:(g-1)*bi+bi=g*bi:=by rw[<-Nat.succ_mul,Nat.succ_eq_add_one,Nat.sub_add_cancel a]
    omega
   have:=(Nat.le_div_iff_mul_le k).2 i;generalize aM/bi=q at*;omega
def jW (b o p:List Nat)(x k i cy a:Nat):Prop:=
 cy<B/\a<=1/\p.length=o.length/\p.drop (k+i)=o.drop (k+i)/\val (p.take (k+i))+B^k*(x*val (b.take i))=val (o.take (k+i))+B^(k+i)*(cy+a)
theorem xC (b o:List Nat)(x k:Nat):jW b o o x k 0 0 0:=⟨b0,by omega,rfl,rfl,by simp[val]⟩
theorem xD {z l u:Nat}(h1:l+b*h=m+cy)(h2:d+l+dJ=z+b*gG)(f:u+K=t+P*(cy+dJ)):u+P*d+(K+P*m)=t+P*z+P*b*(h+gG):=by
 have a:P*(d+m+cy+dJ)=P*(z+b*(h+gG)):=by
  congr 1
  rw[Nat.mul_add];omega
 have c:P*(d+m+cy+dJ)=P*d+P*m+P*(cy+dJ):=by grind
 have e:P*(z+b*(h+gG))=P*z+P*b*(h+gG):=by grind
 omega
theorem lM (x:Nat)(h:p.drop j=o.drop j):(p.set j x).drop (j+1)=o.drop (j+1):=by
 rw[List.drop_set_of_lt (by omega),<-List.drop_drop,h,List.drop_drop]
theorem xE (k i x y:Nat):B^k*(x*(B^i*y))=B^(k+i)*(x*y):=by
 rw[Nat.pow_add];ac_rfl
theorem xF {b:List Nat}(l:k+i<o.length)(g:x<B)(j:b.getD i 0<B)(h:jW b o p x k i cy dJ):
 jW b o (p.set (k+i) (fN (p.getD (k+i) 0) (mulL x (b.getD i 0) cy 0) dJ)) x k (i+1) (gD x (b.getD i 0) cy 0) (fq (p.getD (k+i) 0) (mulL x (b.getD i 0) cy 0) dJ):=by
 obtain⟨c,d,e,a,f⟩:=h;refine⟨lD g j c b0,nW (iL _ _ _ _) d,by rw[List.length_set,e],?_,?_⟩
 .rw[<-Nat.add_assoc];exact lM _ a
 .rw[<-Nat.add_assoc,f4 (by omega),eT o,eT b,<-jU a,Nat.mul_add x,Nat.mul_add (B^k),xE,Nat.pow_succ];exact xD (mul_eq _ _ _ _) (nY _ _ _) f
theorem xG {z u v:Nat}(h2:d+cy+dJ=z+b*gG)(f:u+K=t+P*(cy+dJ)):u+P*d+P*b*v+K=t+P*z+P*b*v+P*b*gG:=by
 have a:P*(d+cy+dJ)=P*(z+b*gG):=by rw[h2]
 have c:P*(d+cy+dJ)=P*d+P*(cy+dJ):=by grind
 have e:P*(z+b*gG)=P*z+P*b*gG:=by grind
 omega
theorem xH {b:List Nat}(i:k+b.length<o.length)(h:jW b o p x k b.length cy dJ):
 val (p.set (k+b.length) (fN (p.getD (k+b.length) 0) cy dJ))+B^k*(x*val b)=val o+B^(k+b.length+1)*fq (p.getD (k+b.length) 0) cy dJ
 /\(p.set (k+b.length) (fN (p.getD (k+b.length) 0) cy dJ)).drop (k+b.length+1)=o.drop (k+b.length+1)
 /\(p.set (k+b.length) (fN (p.getD (k+b.length) 0) cy dJ)).length=o.length/\fq (p.getD (k+b.length) 0) cy dJ<=1:=by
 obtain⟨e,f,g,a,c⟩:=h;have d:=lM (fN (p.getD (k+b.length) 0) cy dJ) a;refine⟨?_,d,by rw[List.length_set,g],nW e f⟩;rw[gF (p.set (k+b.length) _) (k+b.length+1),gF o (k+b.length+1),d,f4 (by omega),eT o,<-jU a,Nat.pow_succ];rw[co]at c;exact xG (nY _ _ _) c
def jX (b o p:List Nat)(k i c:Nat):Prop:=
 c<=1/\p.length=o.length/\p.drop (k+i)=o.drop (k+i)/\val (p.take (k+i))+B^(k+i)*c=val (o.take (k+i))+B^k*val (b.take i)
theorem xI (b o:List Nat)(k:Nat):jX b o o k 0 0:=⟨by omega,rfl,rfl,by simp[val]⟩
theorem xJ {z u:Nat}(h:s+b*k=z+y+c)(f:u+P*c=t+K):u+P*s+P*b*k=t+P*z+(K+P*y):=by
 have a:P*(s+b*k)=P*(z+y+c):=by rw[h]
 have d:P*(s+b*k)=P*s+P*b*k:=by grind
 have e:P*(z+y+c)=P*z+P*y+P*c:=by grind
 omega
theorem xK (k i y:Nat):B^k*(B^i*y)=B^(k+i)*y:=by rw[Nat.pow_add];ac_rfl
theorem xL {b:List Nat}(l:k+i<o.length)(g:Ok p)(j:b.getD i 0<B)(h:jX b o p k i c):
 jX b o (p.set (k+i) (gC (p.getD (k+i) 0) (b.getD i 0) c)) k (i+1) (dQ (p.getD (k+i) 0) (b.getD i 0) c):=by
 obtain⟨d,e,a,f⟩:=h;refine⟨je (cW g _) j d,by rw[List.length_set,e],?_,?_⟩
 .rw[<-Nat.add_assoc];exact lM _ a
 .rw[<-Nat.add_assoc,f4 (by omega),eT o,eT b,<-jU a,Nat.mul_add (B^k),xK,Nat.pow_succ];exact xJ (add_eq _ _ _) f
theorem xM {z u v:Nat}(h:s+b*k=z+c)(f:u+P*c=t+K):u+P*s+P*b*v+P*b*k=t+P*z+P*b*v+K:=by
 have a:P*(s+b*k)=P*(z+c):=by rw[h]
 have d:P*(s+b*k)=P*s+P*b*k:=by grind
 have e:P*(z+c)=P*z+P*c:=by grind
 omega
theorem xN {b:List Nat}(j:k+b.length<o.length)(g:Ok p)(h:jX b o p k b.length c):
 val (p.set (k+b.length) ((p.getD (k+b.length) 0+c)%B))+B^(k+b.length+1)*((p.getD (k+b.length) 0+c)/B)=val o+B^k*val b
 /\(p.set (k+b.length) ((p.getD (k+b.length) 0+c)%B)).drop (k+b.length+1)=o.drop (k+b.length+1)
 /\(p.set (k+b.length) ((p.getD (k+b.length) 0+c)%B)).length=o.length/\(p.getD (k+b.length) 0+c)/B<=1:=by
 obtain⟨i,a,d,e⟩:=h;have f:=lM ((p.getD (k+b.length) 0+c)%B) d;have l:=cW g (k+b.length);refine⟨?_,f,by rw[List.length_set,a],?_⟩
 .rw[gF (p.set (k+b.length) _) (k+b.length+1),gF o (k+b.length+1),f,f4 (by omega),eT o,<-jU d,Nat.pow_succ];rw[co]at e;exact xM (Nat.mod_add_div _ _) e
 .have a:=qT;have:(p.getD (k+b.length) 0+c)/B<2:=Nat.div_lt_of_lt_mul (by omega);omega
def gH (a b o q:List Nat)(j:Nat):Prop:=val a=val (q.drop j)*(B^j*val b)+val o/\val o<B^j*val b
theorem xO {b:List Nat}(h:val a<B^m*val b):gH a b a (bA m 0) m:=
 ⟨by rw[List.drop_replicate,Nat.sub_self];simp[val],h⟩
theorem xP {Q p:Nat}:Q*(P*b*bi)+(p+P*(x*bi))=(x+b*Q)*(P*bi)+p:=by grind
theorem rb {b q:List Nat}(c:i<q.length)(h:gH a b o q (i+1))(h1:val p+B^i*(x*val b)=val o)(h2:val p<B^i*val b):gH a b p (q.set i x) i:=by
 refine⟨?_,h2⟩;rw[h.1,qZ c,<-h1,Nat.pow_succ];exact xP
theorem xQ {b q:List Nat}(h:gH a b o q 0):val q=val a/val b/\val o=val a%val b:=by
 obtain⟨c,d⟩:=h;rw[List.drop_zero,Nat.pow_zero,Nat.one_mul]at c;rw[Nat.pow_zero,Nat.one_mul]at d;exact qY c d
theorem xR {b q:List Nat}(e:Ok o)(hb:Ok b)(E:b.length=n+2)(K:i+(n+2)<o.length)(L:b.getD (n+1) 0≠0)(h:gH a b o q (i+1)):
 val (o.drop (i+(n+2)+1))=0/\o.getD (i+(n+2)) 0<=b.getD (n+1) 0
 /\val o/B^i/val b<=eH (o.getD (i+(n+2)) 0) (o.getD (i+(n+1)) 0) (o.getD (i+n) 0) (b.getD (n+1) 0) (b.getD n 0)
 /\eH (o.getD (i+(n+2)) 0) (o.getD (i+(n+1)) 0) (o.getD (i+n) 0) (b.getD (n+1) 0) (b.getD n 0)<=val o/B^i/val b+1:=by
 have l:val o/B^i=val (o.drop i):=n8 o e i
 have k:val (o.drop i)<B*val b:=by
  rw[<-l];refine Nat.div_lt_of_lt_mul ?_;have:=h.2;rw[Nat.pow_succ,Nat.mul_assoc]at this;exact this
 have p:=hm hb;rw[E]at p
 have r:val (o.drop (i+(n+2)+1))=0:=by
  have j:(o.drop i).drop (n+3)=o.drop (i+(n+2)+1):=by rw[List.drop_drop,show i+(n+3)=i+(n+2)+1 from by omega]
  rw[<-j,<-n8 _ (qI e i)];refine Nat.div_eq_of_lt (Nat.lt_of_lt_of_le k ?_);rw[show n+3=(n+2)+1 from rfl,Nat.pow_succ,Nat.mul_comm (B^(n+2))];exact Nat.mul_le_mul_left _ (Nat.le_of_lt p)
 have m:val (o.drop i)=((o.getD (i+(n+2)) 0*B+o.getD (i+(n+1)) 0)*B+o.getD (i+n) 0)*B^n+val ((o.drop i).take n):=by
  rw[gF (o.drop i) n,List.drop_drop,gE o (i+n),gE o (i+n+1),gE o (i+n+1+1),show i+n+1+1=i+(n+2)from by omega,show i+n+1=i+(n+1)from by omega,r]
  grind
 have z:val b=(b.getD (n+1) 0*B+b.getD n 0)*B^n+val (b.take n):=by
  rw[gF b n,gE b n,gE b (n+1),List.drop_eq_nil_of_le (show b.length<=n+1+1 from by omega)];simp only[val]
  grind
 have u:=jR (qI e i) n;have v:=jR hb n
 have A:B<=b.getD (n+1) 0*B+b.getD n 0:=by
  have:1*B<=b.getD (n+1) 0*B:=Nat.mul_le_mul_right _ (by omega);omega
 rw[l];refine⟨r,?_,xB b0 k z v m u A rfl⟩;have M:=cW hb n;generalize o.getD (i+(n+2)) 0=d at*;generalize o.getD (i+(n+1)) 0=t at*;generalize o.getD (i+n) 0=F at*;generalize b.getD (n+1) 0=c at*;generalize b.getD n 0=g at*;generalize val (o.drop i)=s at*;generalize val b=f at*;generalize val ((o.drop i).take n)=ul at*;generalize val (b.take n)=bD at*;rcases Nat.lt_or_ge c d with D|C
 .exfalso;have J:0<B^n:=Nat.pow_pos b0;have G:(c+1)*B*B*B^n<=d*B*B*B^n:=Nat.mul_le_mul_right _ (Nat.mul_le_mul_right _ (Nat.mul_le_mul_right _ D))
  have H:d*B*B*B^n<=s:=by
   rw[m];refine aQ (Nat.mul_le_mul_right _ ?_) (Nat.le_add_right _ _);have:d*B*B<=(d*B+t)*B:=Nat.mul_le_mul_right _ (by omega);omega
  have x:f<=(c+1)*B*B^n:=by
   have y:(c*B+g+1)*B^n<=(c+1)*B*B^n:=Nat.mul_le_mul_right _ (by rw[Nat.add_mul,Nat.one_mul];omega);rw[Nat.add_mul (c*B+g) 1,Nat.one_mul]at y;omega
  have I:B*f<=(c+1)*B*B*B^n:=by
   have:=Nat.mul_le_mul_left B x;have j:B*((c+1)*B*B^n)=(c+1)*B*B*B^n:=by ac_rfl
   omega
  omega
 .exact C
theorem rc (f:0<P)(g:0<bi)(a:q=dY/P/bi):P*(q*bi)<=dY/\ ∀p,p+P*(q*bi)=dY->p<P*bi:=by
 have b:q*bi<=dY/P:=by rw[a];exact Nat.div_mul_le_self _ _
 have c:dY/P<(q+1)*bi:=by
  rw[a,Nat.mul_comm];exact Nat.lt_mul_div_succ _ g
 have d:P*(q*bi)<=dY:=by
  refine aQ (Nat.mul_le_mul_left P b) ?_;rw[Nat.mul_comm];exact Nat.div_mul_le_self _ _
 have e:dY<P*((q+1)*bi):=by
  have:=Nat.lt_mul_div_succ dY f;exact Nat.lt_of_lt_of_le this (Nat.mul_le_mul_left P c)
 refine⟨d,λp i=> ?_⟩;rw[Nat.add_mul,Nat.one_mul,Nat.mul_add]at e;omega
theorem xS {p:Nat}(a:0<P)(b:0<bi)(e:dY/P/bi<=x)(h:p+P*(x*bi)=dY):p<P*bi:=by
 have c:x*bi<=dY/P:=by
  rw[Nat.le_div_iff_mul_le a,Nat.mul_comm];omega
 have d:x<=dY/P/bi:=(Nat.le_div_iff_mul_le b).2 c;exact(rc a b (Nat.le_antisymm d e)).2 p h
theorem xT {p aq p2:Nat}(f:0<P)(g:0<bi)(r:x<=dY/P/bi+1)(h:p+P*(x*bi)=dY+aq)(n:p<aq)(m:c<=1)(b:p2+aq*c=p+P*bi)(o:p2<aq):
 1<=x/\p2+P*((x-1)*bi)=dY/\p2<P*bi:=by
 have d:dY/P<x*bi:=by
  refine Nat.div_lt_of_lt_mul ?_;omega
 have k:dY/P/bi<x:=Nat.div_lt_of_lt_mul (by rw[Nat.mul_comm];exact d);obtain⟨q,j⟩:∃q,q=dY/P/bi:=⟨_,rfl⟩;obtain rfl:x=q+1:=by omega
 obtain⟨l,e⟩:=rc f g j;rw[Nat.add_mul,Nat.one_mul,Nat.mul_add]at h
 have a:p2+P*(q*bi)=dY:=by
  have i:c=0\/c=1:=by omega
  rcases i with rfl|rfl
  .rw[Nat.mul_zero]at b;omega
  .rw[Nat.mul_one]at b;omega
 exact⟨by omega,by simpa using a,e _ a⟩
theorem ob (h:Ok p)(a:val (p.drop k)=0):val p<B^k:=by
 rw[gF p k,a,Nat.mul_zero,Nat.add_zero];exact jR h k
theorem xU {u b:List Nat}(c:Ok u)(e:b.length=n+2)(f:b.getD (n+1) 0≠0)(d:m+(n+2)=u.length+1):val (u++[0])<B^m*val b:=by
 have a:=hm c;rw[jL];simp only[val,Nat.mul_zero,Nat.add_zero];refine Nat.lt_of_lt_of_le a ?_;rw[show u.length=m+(n+1)from by omega,Nat.pow_add];refine Nat.mul_le_mul_left _ ?_;rw[gF b (n+1),gE b (n+1)];refine aQ ?_ (Nat.le_add_left _ _);exact Nat.le_mul_of_pos_right _ (by omega)
end E
namespace E
theorem oc (a b:Nat):Nat.gcd b (a%b)=Nat.gcd a b:=by
 rw[Nat.gcd_comm a b,Nat.gcd_comm b (a%b),<-Nat.gcd_rec]
theorem xV {a:Nat}(ha:(words a).length<=n)(hb:(words b).length<=n):(words (Nat.gcd a b)).length<=n:=by
 rcases Nat.eq_zero_or_pos b with h|h
 .subst h;rw[Nat.gcd_zero_right];exact ha
 .exact aQ (eS (Nat.gcd_le_right a h)) hb
end E
namespace E
def iv (s:Bool)(n:Nat):Int:=if s then-(n:Int)else(n:Int)
def aB (z:Int):Bool:=decide (z<0)
theorem jY (s:Bool)(n:Nat):(iv s n).natAbs=n:=by cases s<;>simp[iv]
theorem hZ (z:Int):iv (aB z) z.natAbs=z:=by
 unfold iv aB
 by_cases a:z<0
 .rw[decide_eq_true a];simp;omega
 .rw[decide_eq_false a];simp;omega
theorem xW (s:Bool)(h:n≠0):aB (iv s n)=s:=by
 unfold iv aB;cases s
 .exact decide_eq_false (by simp)
 .exact decide_eq_true (by simp;omega)
theorem jh (s:Bool):iv s 0=0:=by cases s<;>rfl
theorem xX (s:Bool)(n:Nat):aB (iv s n)=(s&&decide (0<n)):=by
 by_cases a:n=0
 .subst a;rw[jh];simp[aB]
 .rw[xW s a,decide_eq_true (by omega),Bool.and_true]
theorem xY (s:Bool)(n:Nat):aB (iv s n)=(s&&decide (0<(words n).length)):=by
 rw[xX]
 congr 1
 have:= @hq n;simp only[decide_eq_decide];omega
theorem od {s:Bool}:iv s n=0↔n=0:=by cases s<;>simp[iv]
theorem ht (n:Nat):iv false n=(n:Int):=rfl
theorem ji (n:Nat):iv true n= -(n:Int):=rfl
theorem xZ (s:Bool)(n:Nat):iv (!s) n= -iv s n:=by cases s<;>simp[iv]
theorem oe (s t:Bool)(m n:Nat):iv (s !=t) (m*n)=iv s m*iv t n:=by
 cases s<;>cases t<;>simp[iv,Int.natCast_mul,Int.mul_neg,Int.neg_mul]
theorem rf (s:Bool)(m n:Nat):iv s (m+n)=iv s m+iv s n:=by cases s<;>simp[iv];omega
theorem ya (n:Nat):aB (n:Int)=false:=by unfold aB;exact decide_eq_false (by omega)
theorem rh (s t:Bool)(m n:Nat)(h:(s==t)=false):iv (if m<n then t else s) (iM m n)=iv s m+iv t n:=by
 unfold iM
 by_cases a:m<n
 .rw[if_pos a,if_pos a];cases s<;>cases t<;>simp[iv]at h|- <;>omega
 .rw[if_neg a,if_neg a];cases s<;>cases t<;>simp[iv]at h|- <;>omega
def bU (z:Int):Int:=if z<0 then-1 else if 0<z then 1 else 0
theorem jZ (h:z<0):bU z= -1:=if_pos h
theorem iO (h:0<z):bU z=1:=by unfold bU;rw[if_neg (by omega),if_pos h]
theorem h3 (z:Int):z<0/\bU z= -1\/z=0/\bU z=0\/0<z/\bU z=1:=by
 rcases Int.lt_trichotomy z 0 with h|h|h
 .exact .inl ⟨h,jZ h⟩
 .exact .inr (.inl ⟨h,by rw[h];rfl⟩)
 .exact .inr (.inr ⟨h,iO h⟩)
theorem yb (x y:Int):bU (x*y)=bU x*bU y:=by
 rcases h3 x with⟨a,b⟩|⟨a,b⟩|⟨a,b⟩<;>rcases h3 y with⟨k,c⟩|⟨k,c⟩|⟨k,c⟩<;>rw[b,c]
 .exact iO (Int.mul_pos_of_neg_of_neg a k)
 .subst k;simp[bU]
 .exact jZ (Int.mul_neg_of_neg_of_pos a k)
 .subst a;simp[bU]
 .subst a;simp[bU]
 .subst a;simp[bU]
 .exact jZ (Int.mul_neg_of_pos_of_neg a k)
 .subst k;simp[bU]
 .exact iO (Int.mul_pos a k)
theorem yd (z:Int):bU (-z)= -bU z:=by rcases h3 z with⟨b,a⟩|⟨b,a⟩|⟨b,a⟩<;>rw[a]<;>unfold bU<;>(repeat' split)<;>omega
theorem og (h:n<18446744073709551616):(words n).length<=2:=by
 rw[eo,bL];exact h
def Lz (z:Int)(k:Nat):Prop:=(words z.natAbs).length<=k
theorem Lz.mono (h:Lz z j)(a:j<=k):Lz z k:=aQ h a
theorem Lz.neg (h:Lz z k):Lz (-z) k:=by unfold Lz;rw[Int.natAbs_neg];exact h
theorem Lz.mul {x y:Int}(h:Lz x j)(a:Lz y k):Lz (x*y) (j+k):=by unfold Lz;rw[Int.natAbs_mul];exact g1 h a
theorem ri {a:Nat}(ha:(words a).length<=m)(hb:(words b).length<=m):(words (a+b)).length<=m+1:=by
 rw[eo]at*;rw[Nat.pow_succ];have:=Nat.mul_le_mul_left (B^m) qT;omega
theorem Lz.add {x y:Int}(h:Lz x j)(a:Lz y k):Lz (x+y) (max j k+1):=
 aQ (eS (Int.natAbs_add_le x y)) (ri (aQ h (Nat.le_max_left _ _)) (aQ a (Nat.le_max_right _ _)))
theorem Lz.iv {s:Bool}{n k:Nat}(h:(words n).length<=k):Lz (iv s n) k:=by unfold Lz;rw[jY];exact h
def Lq (q:Rat)(k:Nat):Prop:=Lz q.num k/\(words q.den).length<=k
theorem Lq.mono {q:Rat}{j k:Nat}(h:Lq q j)(a:j<=k):Lq q k:=⟨h.1.mono a,aQ h.2 a⟩
theorem Lq.pos {q:Rat}(h:Lq q k):1<=k:=by
 have h1:=h.2;have:(words q.den).length≠0:=λe=>q.den_nz (hq.1 e)
 omega
theorem Lq.mk {n:Int}(h:Lz n k)(a:(words d).length<=k)(b:1<=k):Lq (mkRat n d) k:=by
 refine⟨?_,?_⟩
 .unfold Lz;rw[Rat.num_mkRat]
  split
  .simp[en]
  .refine aQ (eS ?_) h;rw[Int.natAbs_ediv_of_dvd (by rw[<-Int.dvd_natAbs,Int.ofNat_dvd];exact Nat.gcd_dvd_right d n.natAbs),Int.natAbs_natCast];exact Nat.div_le_self _ _
 .rw[Rat.den_mkRat]
  split
  .exact aQ hs b
  .exact aQ (eS (Nat.div_le_self _ _)) a
theorem Lq.add {a b:Rat}{j k:Nat}(h:Lq a j)(c:Lq b k):Lq (a+b) (j+k+1):=by
 rw[Rat.add_def'];refine Lq.mk (((h.1.mul (y:=(b.den:Int)) c.2).add (c.1.mul (y:=(a.den:Int)) h.2)).mono (by have:=Nat.max_le.2 ⟨a8 (j+k),Nat.le_of_eq (Nat.add_comm k j)⟩;omega)) (aQ (g1 h.2 c.2) (by omega)) (by omega)
theorem Lq.mul {a b:Rat}{j k:Nat}(h:Lq a j)(c:Lq b k):Lq (a*b) (j+k):=by
 rw[Rat.mul_def'];exact Lq.mk (h.1.mul c.1) (g1 h.2 c.2) (by have:=h.pos;omega)
theorem Lq.neg {a:Rat}{j:Nat}(h:Lq a j):Lq (-a) j:=⟨h.1.neg,h.2⟩
theorem Lq.sub {a b:Rat}(h:Lq a j)(c:Lq b k):Lq (a-b) (j+k+1):=by rw[Rat.sub_eq_add_neg];exact h.add c.neg
theorem Lq.inv {a:Rat}(h:Lq a j):Lq a⁻¹ j:=by
 by_cases b:a.num=0
 .have e:=Rat.num_eq_zero.1 b;subst e;rw[Rat.inv_zero];exact h
 .refine⟨?_,?_⟩
  .unfold Lz;rw[Rat.num_inv,Int.natAbs_mul,Int.natAbs_sign_of_ne_zero b,Nat.one_mul,Int.natAbs_natCast];exact h.2
  .rw[Rat.den_inv,if_neg b];exact h.1
theorem Lq.div {a b:Rat}(h:Lq a j)(c:Lq b k):Lq (a/b) (j+k):=by rw[Rat.div_def];exact h.mul c.inv
theorem Lq.int (h:Lz z k)(a:1<=k):Lq (z:Rat) k:=⟨h,aQ hs a⟩
theorem Lq.pow {a:Rat}{j:Nat}(h:Lq a j)(n:Nat):Lq (a^n) (j*n+1):=by
 induction n with
 |zero=>rw[Rat.pow_zero];exact⟨by unfold Lz;exact aQ hs (by omega),aQ hs (by omega)⟩
 |succ n ih=>rw[Rat.pow_succ];exact(ih.mul h).mono (by rw[Nat.mul_succ];omega)
def cI (a b:Rat):Int:=bU (a-b).num
theorem rj (x:Int)(d:Nat)(h:d≠0):bU (mkRat x d).num=bU x:=by
 rw[Rat.num_mkRat,if_neg h];have e:0<d.gcd x.natAbs:=Nat.gcd_pos_of_pos_left _ (by omega);have b:((d.gcd x.natAbs:Nat):Int)∣x:=by rw[<-Int.dvd_natAbs,Int.ofNat_dvd];exact Nat.gcd_dvd_right d x.natAbs
 obtain⟨f,c⟩:=b;generalize d.gcd x.natAbs=a at*;subst c;rw[Int.mul_ediv_cancel_left _ (by omega),yb,iO (z:=(a:Int)) (by omega),Int.one_mul]
theorem ye {s t:Bool}(d:0<iv t M):
 iv s N-iv (s !=t) (N/M)*iv t M<0/\iv (s !=t) (N/M)-1=iv s N/iv t M\/0<=iv s N-iv (s !=t) (N/M)*iv t M/\iv (s !=t) (N/M)=iv s N/iv t M:=by
 have k:t=false:=by cases t;rfl;simp[iv]at d;omega
 subst k;have g:0<M:=by simpa[iv]using d
 have l:(M:Int)*((N/M:Nat):Int)+((N%M:Nat):Int)=(N:Int):=by exact_mod_cast Nat.div_add_mod N M
 have j:((N%M:Nat):Int)<(M:Int):=by exact_mod_cast Nat.mod_lt N g
 have c:(0:Int)<(M:Int):=by omega
 have i:(0:Int)<=((N%M:Nat):Int):=Int.natCast_nonneg _;cases s
 .have b:iv (false !=false) (N/M)=((N/M:Nat):Int):=rfl;rw[b,ht,ht];generalize((N/M:Nat):Int)=e at*;generalize((N%M:Nat):Int)=a at*;refine .inr ⟨by rw[Int.mul_comm];omega,?_⟩;exact(((Int.ediv_emod_unique c).2 ⟨by omega,i,j⟩).1).symm
 .have b:iv (true !=false) (N/M)= -((N/M:Nat):Int):=rfl;rw[b,ji,ht];generalize((N/M:Nat):Int)=e at*;generalize((N%M:Nat):Int)=a at*
  by_cases f:a=0
  .subst f;refine .inr ⟨by rw[Int.neg_mul,Int.mul_comm];omega,?_⟩;exact(((Int.ediv_emod_unique (r:=0) c).2 ⟨by rw[Int.mul_neg];omega,by omega,by omega⟩).1).symm
  .refine .inl ⟨by rw[Int.neg_mul,Int.mul_comm];omega,?_⟩;exact(((Int.ediv_emod_unique (r:=(M:Int)-a) c).2 ⟨by rw[Int.mul_sub,Int.mul_neg];omega,by omega,by omega⟩).1).symm
end E
namespace E
theorem yf (s:Bool)(L:Nat)(h:M≠0):(mkRat (iv s L) M).num=iv s (L/Nat.gcd L M)/\(mkRat (iv s L) M).den=M/Nat.gcd L M:=by
 rw[Rat.num_mkRat,Rat.den_mkRat,if_neg h,if_neg h,jY,Nat.gcd_comm M L];refine⟨?_,rfl⟩;have c:=Nat.gcd_dvd_left L M;generalize Nat.gcd L M=b at*;obtain⟨k,rfl⟩:=c;rcases Nat.eq_zero_or_pos b with a|a
 .subst a;simp[jh]
 .rw[Nat.mul_div_cancel_left _ a];cases s
  .simp only[ht,Int.natCast_mul];exact Int.mul_ediv_cancel_left _ (by omega)
  .simp only[ji,Int.natCast_mul,<-Int.mul_neg];exact Int.mul_ediv_cancel_left _ (by omega)
theorem rk (x y:Int){e:Nat}(a:d≠0)(b:e≠0):mkRat x d-mkRat y e=mkRat (x*e-y*d) (d*e):=by
 rw[Rat.sub_eq_add_neg,Rat.neg_mkRat,Rat.mkRat_add_mkRat _ _ a b,Int.neg_mul,Int.sub_eq_add_neg]
theorem yg (x y:Int){e:Nat}(a:d≠0)(b:e≠0):cI (mkRat x d) (mkRat y e)=bU (x*e-y*d):=by
 unfold cI;rw[rk x y a b,rj _ _ (Nat.mul_ne_zero a b)]
theorem yh {x:Int}{t:Bool}:iv (aB x !=t) x.natAbs=x*iv t 1:=by
 have a:=oe (aB x) t x.natAbs 1;rw[Nat.mul_one,hZ]at a;exact a
theorem yj (x:Int){t:Bool}{e:Nat}(a:N≠0)(b:d≠0)(c:e≠0):mkRat (iv (aB (x*e) !=t) (x*e).natAbs) (d*N)=mkRat x d/mkRat (iv t N) e:=by
 rw[yh];simp only[Rat.mkRat_eq_div];have f:(N:Rat)≠0:=by simpa using a
 have g:(d:Rat)≠0:=by simpa using b
 have i:(e:Rat)≠0:=by simpa using c
 cases t
 .simp only[ht]
  push_cast
  grind
 .simp only[ji]
  push_cast
  grind
end E
namespace E
def dZ (q:Rat):Rat:=if q.num<0 then-q else q
theorem rl (q:Rat):(dZ q).num=(q.num.natAbs:Int):=by
 unfold dZ
 split
 .rw[Rat.neg_num];omega
 .omega
theorem yk (q:Rat):(dZ q).den=q.den:=by
 unfold dZ
 split
 .rw[Rat.neg_den]
 .rfl
theorem ym (z:Int)(a:d≠0):(mkRat z d).floor=z/(d:Int):=by
 rw[Rat.floor_def,Rat.num_mkRat,Rat.den_mkRat,if_neg a,if_neg a];have b:=Nat.gcd_dvd_left d z.natAbs;have c:((d.gcd z.natAbs:Nat):Int)∣z:=by rw[<-Int.dvd_natAbs,Int.ofNat_dvd];exact Nat.gcd_dvd_right d z.natAbs
 have e:0<d.gcd z.natAbs:=Nat.gcd_pos_of_pos_left _ (by omega);generalize d.gcd z.natAbs=f at*;obtain⟨k,rfl⟩:=b;obtain⟨g,rfl⟩:=c;rw[Nat.mul_div_cancel_left _ e,Int.mul_ediv_cancel_left _ (by omega),Int.natCast_mul,Int.mul_ediv_mul_of_pos _ _ (by omega)]
theorem yn (a b:Rat):cI a b=0↔a=b:=by
 unfold cI;constructor
 .intro d;rcases h3 (a-b).num with⟨_,c⟩|⟨c,_⟩|⟨_,c⟩
  .omega
  .have:=Rat.num_eq_zero.1 c
   grind
  .omega
 .rintro rfl;rw[Rat.sub_self];rfl
theorem lN (h:(words n).length<=k):bD n<=32*k:=by
 rw[lG];have:=eo.1 h;rw[hX]at this;exact this
end E
namespace E
theorem rg (s:Bool)(N n:Nat):(iv s N)^n=iv (s&&decide (n%2=1)) (N^n):=by
 induction n with
 |zero=>cases s<;>simp[iv]
 |succ n ih=>
  have b:(s&&decide ((n+1)%2=1))=((s&&decide (n%2=1)) !=s):=by
   by_cases a:n%2=1
   .rw[decide_eq_true a,decide_eq_false (by omega)];cases s<;>rfl
   .rw[decide_eq_false a,decide_eq_true (by omega)];cases s<;>rfl
  rw[Int.pow_succ,ih,Nat.pow_succ,b,oe]
def fO (q:Rat)(e:Int):Bool:=decide (-8<=e/\e<=8/\ ¬(e<0/\q=0))
def gI (q:Rat)(e:Int):Rat:=if fO q e then q^e else 0
theorem yo (q:Rat)(n:Nat):(q^(n:Int)).num=iv (aB q.num&&decide (n%2=1)) (q.num.natAbs^n)/\(q^(n:Int)).den=q.den^n:=by
 rw[Rat.zpow_natCast,Rat.num_pow,Rat.den_pow];refine⟨?_,rfl⟩;rw[<-rg,hZ]
theorem yp {s:Bool}(h:N≠0)(M:Nat):(iv s N).sign*(M:Int)=iv s M:=by
 cases s
 .rw[ht,ht,Int.sign_eq_one_of_pos (by omega),Int.one_mul]
 .rw[ji,ji,Int.sign_eq_neg_one_of_neg (by omega),Int.neg_mul,Int.one_mul]
theorem yq {q:Rat}(h:q≠0)(n:Nat):(q^(-(n:Int))).num=iv (aB q.num&&decide (n%2=1)) (q.den^n)/\(q^(-(n:Int))).den=q.num.natAbs^n:=by
 have c:q.num.natAbs≠0:=by
  intro a;exact h (Rat.num_eq_zero.1 (by omega))
 have b:q.num.natAbs^n≠0:=by
  have:=Nat.pow_pos (n:=n) (Nat.pos_of_ne_zero c);omega
 have d:(q^n).num=iv (aB q.num&&decide (n%2=1)) (q.num.natAbs^n):=by rw[Rat.num_pow,<-rg,hZ]
 rw[Rat.zpow_neg,Rat.zpow_natCast,Rat.num_inv,Rat.den_inv,d,Rat.den_pow,yp b,jY,if_neg (λa=>b (od.1 a))];exact⟨rfl,rfl⟩
theorem oh {N k:Nat}(h:(words N).length<=k)(n:Nat):(words (N^n)).length<=k*n+1:=by
 induction n with
 |zero=>rw[Nat.pow_zero];exact aQ hs (by omega)
 |succ n ih=>rw[Nat.pow_succ];exact aQ (g1 ih h) (by rw[Nat.mul_succ];omega)
end E
namespace E
theorem Lq.zpow {q:Rat}(h:Lq q k){e:Int}(h1: -(n:Int)<=e)(h2:e<=n):Lq (q^e) (k*n+1):=by
 have c:∀b,b<=n->Lq (q^b) (k*n+1):=λb c=>(h.pow b).mono (by have:=Nat.mul_le_mul_left k c;omega)
 rcases Int.lt_or_le e 0 with d|d
 .obtain⟨b,f⟩:=Int.eq_ofNat_of_zero_le (a:= -e) (by omega);obtain rfl:e= -(b:Int):=by omega
  rw[Rat.zpow_neg,Rat.zpow_natCast];exact(c b (by omega)).inv
 .obtain⟨b,rfl⟩:=Int.eq_ofNat_of_zero_le d;rw[Rat.zpow_natCast];exact c b (by omega)
end E
namespace E
theorem yr (a b:Rat):cI b a= -cI a b:=by
 unfold cI;rw[<-Rat.neg_sub,Rat.neg_num,yd]
theorem yt (a:Rat):0<=bU a.num↔0<=a:=by
 rw[<-Rat.num_nonneg];rcases h3 a.num with⟨c,b⟩|⟨c,b⟩|⟨c,b⟩<;>rw[b]<;>omega
theorem lO (a b:Rat):0<=cI a b↔b<=a:=by
 unfold cI;rw[yt];exact(Rat.le_iff_sub_nonneg b a).symm
theorem iP (a b:Rat):0<cI a b↔b<a:=by
 have c:=lO b a;have d:=yr a b;rw[<-Rat.not_le,<-c,d];omega
end E
namespace Go.Proofs.YtjopfpegcckllaaGreatDoor
open Go.RowKit
theorem oj {k l:IntKind}{a b c d:Int}(h1:a=c)(h2:b=d):aw (aY #[H k a,H l b])=aw (aY #[H k c,H l d]):=by rw[h1,h2]
theorem yu {k:IntKind}{a b:Int}(h:a=b):aw (H k a)=aw (H k b):=by rw[h]
theorem gJ {x y c:Int}(X a C:Nat)(g:x=X)(i:y=a)(f:c=C)(bx:X<E.B)(b:a<E.B)(d:C<E.B)(w:O):
 aj ae 194 #[H a7 x,H a7 y,H a7 c] w λe j=>e=aw (aY #[H a7 (E.gC X a C:Nat),H a7 (E.dQ X a C:Nat)])/\w=j:=by
 subst g i f;rw[E.bL]at bx b d;go_enter func194,ntmps194;go_wp2
 all_goals
  go_ret2
  refine⟨oj ?_ ?_,rfl⟩
  all_goals(simp only[E.gC,E.dQ];omega)
theorem lP {x y c:Int}(X a C:Nat)(g:x=X)(i:y=a)(f:c=C)(bx:X<E.B)(b:a<E.B)(d:C<E.B)(w:O):
 aj ae 195 #[H a7 x,H a7 y,H a7 c] w λe j=>e=aw (aY #[H a7 (E.fN X a C:Nat),H a7 (E.fq X a C:Nat)])/\w=j:=by
 subst g i f;rw[E.bL]at bx b d;go_enter func195,ntmps195;go_wp2
 all_goals
  go_ret2
  refine⟨oj ?_ ?_,rfl⟩
  all_goals(simp only[E.fN,E.fq];omega)
theorem lQ {x y c d:Int}(X a C ai:Nat)(j:x=X)(k:y=a)(g:c=C)(i:d=ai)(bx:X<E.B)(b:a<E.B)(f:C<E.B)(bj:ai<E.B)(w:O):
 aj ae 148 #[H a7 x,H a7 y,H a7 c,H a7 d] w λe l=>e=aw (aY #[H a7 (E.gD X a C ai:Nat),H a7 (E.mulL X a C ai:Nat)])/\w=l:=by
 subst j k g i;have m:=E.qL bx b;have n:(X:Int)*a<=18446744065119617025:=by rw[<-Int.natCast_mul];omega
 rw[E.bL]at bx b f bj;go_enter func148,ntmps148;go_wp2
 all_goals
  go_ret2
  refine⟨oj ?_ ?_,rfl⟩
  all_goals(simp only[E.gD,E.mulL];omega)
theorem rn {x y:Int}(X a bQ:Nat)(d:x=X)(f:y=a)(g:z=bQ)(bx:X<E.B)(b:a<E.B)(c:bQ<E.B)(h:bQ<=X)(w:O):
 aj ae 190 #[H a7 x,H a7 y,H a7 z] w λe i=>e=aw (aY #[H a7 0,H a7 0,J false])/\w=i:=by
 subst d f g;rw[E.bL]at bx b c;go_enter func190,ntmps190;go_wp2
 go_ret3
 exact⟨rfl,rfl⟩
theorem yw (X a:Nat)(c:X<4294967296)(d:a<4294967296):bits BinOp.or IntKind.u64 ((X:Int)*4294967296) a=((X*4294967296+a:Nat):Int):=by
 have b:=u64_or_nat (X*4294967296) a (by omega) (by omega);rw[nat_join 32 _ _ (by omega) (by omega)]at b;rw[<-b];rfl
theorem rp {x y:Int}(X a bQ:Nat)(p:x=X)(r:y=a)(s:z=bQ)(bx:X<E.B)(c:a<E.B)(f:bQ<E.B)(h:X<bQ)(w:O):
 aj ae 190 #[H a7 x,H a7 y,H a7 z] w λe t=> ∃n,e=aw (aY #[H a7 (E.ft X a bQ:Nat),H a7 (E.hr X a bQ:Nat),J true])/\t=w.drewN n:=by
 subst p r s;have d:=E.nZ c h;have o:=E.lE (h:=X) (l:=a) (y:=bQ) (by omega);rw[E.bL]at bx c f d;obtain⟨n,b⟩:∃n,n=X*4294967296+a:=⟨_,rfl⟩;have m:=yw X a bx c;rw[<-b]at m;have u:n<18446744073709551616:=by omega
 have j:Y (E.ft X a bQ=n/bQ):=by rw[b];rfl
 have k:Y (E.hr X a bQ=n%bQ):=by rw[b];rfl
 clear b;go_enter func190,ntmps190;go_wp2
 go_quiet (fail)
 go_wp2
 go_ret3
 refine⟨nq,?_,rfl⟩;rw[j.out]at d|-;rw[k.out]at o|-
 have g:IntKind.u64.wrap ((n:Int)/(bQ:Int))%4294967296=((n/bQ:Nat):Int):=by
  rw[<-Int.natCast_ediv];generalize n/bQ=q at d|-;rw[IntWalk.u64_in _ (by omega)];omega
 have i:(n:Int)%(bQ:Int)%4294967296=((n%bQ:Nat):Int):=by omega
 exact congrArg aw (by rw[<-g,<-i];rfl)
theorem rq {x:Int}(X:Nat)(m:x=X)(bx:X<E.B)(w:O):
 aj ae 165 #[H a7 x] w λe o=>e=aw (H I (E.bD X:Nat))/\w=o:=by
 subst m;rw[E.bL]at bx;go_enter func165,ntmps165;go_wp2
 go_loop [0,3,4] (λx n c=> ∃a k d:Nat,x=H a7 a/\n=H I k/\c=H I d/\k+2*d<=32/\Y (E.bD X=E.bD a+k)/\(d=16/\a<4294967296\/d=8/\a<65536\/d=4/\a<256\/d=2/\a<16\/d=1/\a<4\/d=0/\a<2)) (λ_ _ c=>(aI c).toNat)
 case atStart=>exact⟨X,0,16,rfl,rfl,rfl,by omega,by simp[Y],by omega⟩
 case round=>
  obtain⟨a,k,d,rfl,rfl,rfl,p,f,l⟩:=hrel;have j:∀c,a/2^c≠0->E.bD X=E.bD (a/2^c)+(k+c):=λc b=>by rw[f.out,E.qN c a b];omega
  have i:=G j;clear j;rcases l with⟨rfl,g⟩|⟨rfl,g⟩|⟨rfl,g⟩|⟨rfl,g⟩|⟨rfl,g⟩|⟨rfl,g⟩
  .go_wp2
   .have b:((a:Int)/65536 !=0)=true:=by assumption
    go_round
    case rel=>exact⟨a/65536,k+16,8,by go_num,by go_num,rfl,by omega,i.out 16 (by simp at b;omega),by omega⟩
    case measure=>simp[aI]
   .have b:((a:Int)/65536 !=0)=false:=by assumption
    go_round
    case rel=>exact⟨a,k,8,rfl,rfl,rfl,by omega,f,by simp at b;omega⟩
    case measure=>simp[aI]
  .go_wp2
   .have b:((a:Int)/256 !=0)=true:=by assumption
    go_round
    case rel=>exact⟨a/256,k+8,4,by go_num,by go_num,rfl,by omega,i.out 8 (by simp at b;omega),by omega⟩
    case measure=>simp[aI]
   .have b:((a:Int)/256 !=0)=false:=by assumption
    go_round
    case rel=>exact⟨a,k,4,rfl,rfl,rfl,by omega,f,by simp at b;omega⟩
    case measure=>simp[aI]
  .go_wp2
   .have b:((a:Int)/16 !=0)=true:=by assumption
    go_round
    case rel=>exact⟨a/16,k+4,2,by go_num,by go_num,rfl,by omega,i.out 4 (by simp at b;omega),by omega⟩
    case measure=>simp[aI]
   .have b:((a:Int)/16 !=0)=false:=by assumption
    go_round
    case rel=>exact⟨a,k,2,rfl,rfl,rfl,by omega,f,by simp at b;omega⟩
    case measure=>simp[aI]
  .go_wp2
   .have b:((a:Int)/4 !=0)=true:=by assumption
    go_round
    case rel=>exact⟨a/4,k+2,1,by go_num,by go_num,rfl,by omega,i.out 2 (by simp at b;omega),by omega⟩
    case measure=>simp[aI]
   .have b:((a:Int)/4 !=0)=false:=by assumption
    go_round
    case rel=>exact⟨a,k,1,rfl,rfl,rfl,by omega,f,by simp at b;omega⟩
    case measure=>simp[aI]
  .go_wp2
   .have b:((a:Int)/2 !=0)=true:=by assumption
    go_round
    case rel=>exact⟨a/2,k+1,0,by go_num,by go_num,rfl,by omega,i.out 1 (by simp at b;omega),by omega⟩
    case measure=>simp[aI]
   .have b:((a:Int)/2 !=0)=false:=by assumption
    go_round
    case rel=>exact⟨a,k,0,rfl,rfl,rfl,by omega,f,by simp at b;omega⟩
    case measure=>simp[aI]
  .go_wp2;go_ret;exact⟨yu (by rw[f.out,E.wO g];omega),rfl⟩
def V (w a:O):Prop:=Below w.heap.size w a
theorem V.refl (w:O):V w w:=Below.refl _ _
theorem V.below (h:V w ab):Below w.heap.size w ab:=h
theorem V.of (h:Below w.heap.size w ab):V w ab:=h
theorem V.size {w ab:O}(h:V w ab):w.heap.size<=ab.heap.size:=Below.size h
theorem V.trans {a b c:O}(h:V a b)(k:V b c):V a c:=Below.trans h (Below.mono k (Below.size h))
instance V.Hf {a b c:O}:Lu (V b c) (V a b) (V a c):=bu λk h=>h.trans k
theorem V.alloc {a w:O}(h:V a w)(o:Obj):V a (w.alloc o):=Below.alloc h (Below.size h) o
theorem V.drew {a w:O}(h:V a w):V a w.drew:=Below.drew h
theorem V.drewN {a w:O}(h:V a w)(n:Nat):V a (w.drewN n):=⟨h.os,h.tape,h.output,h.size,h.block⟩
theorem V.setCell {a w:O}(h:V a w){p:am}(b:a.heap.size<=p.block)(u:W):V a (w.setCell p u):=Below.setCell h b u
theorem us {a:O}{p:am}(h:V a w)(b:a.heap.size<=p.block:=by(try dsimp only);omega):V a (w.setCell p u):=h.setCell b u
theorem V.grown {a w ab:O}{row:Option Nat}(h:V a w)(b:w.grownBy ab row)(c:∀k,row=U k->a.heap.size<=k):V a ab:=Below.grown h b (Below.size h) c
theorem V.cell {w ab:O}(h:V w ab){p:am}(a:p.block<w.heap.size):ab.cell? p=w.cell? p:=Below.cell h a
instance G5 {aM A B h4 h5:Prop} [l:HAppend (PLift aM) (PLift A) (PLift h4)] [m:HAppend (PLift aM) (PLift B) (PLift h5)]:Lu aM (A/\B) (h4/\h5):=bu λb a=>⟨(l.1 ⟨b⟩ ⟨a.1⟩).down,(m.1 ⟨b⟩ ⟨a.2⟩).down⟩
instance G6 {w ab:O} {p:am} {v:W}:Lu (V w ab) (w.cell? p=U v) (ab.cell? p=U v):=bu λb a=>(b.cell (World.block_lt_of_cell? w _ a)).trans a
theorem V.heap {w ab:O}(h:V w ab){g:Nat}(a:g<w.heap.size):ab.heap[g]? =w.heap[g]? :=Below.block h g a
def b2 (w:O)(d:Option am)(vs:List W):Prop:=
 0<vs.length-> ∃a o,d=U ⟨a,o,none⟩/\a<w.heap.size/\ ∀(b:Nat) c,vs[b]? =U c->w.cell? ⟨a,o+b,none⟩=U c
theorem b2.nil (w:O)(a:Option am):b2 w a []:=λh=>absurd h (by simp)
theorem b2.up (h:b2 w A vs)(a:V w ab):b2 ab A vs:=λf=>by
 obtain⟨b,o,c,hb,d⟩:=h f;exact⟨b,o,c,Nat.lt_of_lt_of_le hb a.size,λj u e=>(a.cell hb).trans (d j u e)⟩
instance b2.bW {w ab:O} {A:Option am} {vs:List W}:Lu (V w ab) (b2 w A vs) (b2 ab A vs):=bu λu h=>h.up u
theorem b2.at_ (h:b2 w A vs)(a:vs[k]? =U u):∃b o,A=U ⟨b,o,none⟩/\b<w.heap.size/\w.cell? ⟨b,o+k,none⟩=U u:=by
 have e:k<vs.length:=by
  rcases Nat.lt_or_ge k vs.length with h|h
  .exact h
  .rw[List.getElem?_eq_none h]at a;cases a
 obtain⟨b,o,c,hb,d⟩:=h (by omega);exact⟨b,o,c,hb,d k u a⟩
theorem b2.take {w:O}{A:Option am}{vs:List W}(h:b2 w A vs)(n:Nat):b2 w A (vs.take n):=λc=>by
 have c:0<vs.length:=by simp at c;omega
 obtain⟨b,o,d,hb,e⟩:=h c;refine⟨b,o,d,hb,λj u a=>e j u ?_⟩;rw[List.getElem?_take]at a
 split at a
 .exact a
 .cases a
theorem b2.drop {w:O}{b o:Nat}{vs:List W}(h:b2 w (U ⟨b,o,none⟩) vs)(n:Nat):b2 w (U ⟨b,o+n,none⟩) (vs.drop n):=λa=>by
 have a:0<vs.length:=by simp at a;omega
 obtain⟨f,g,c,hb,e⟩:=h a;simp at c;obtain⟨rfl,rfl⟩:=c;refine⟨b,o+n,rfl,hb,λj u d=> ?_⟩;rw[List.getElem?_drop]at d;rw[Nat.add_assoc];exact e _ u d
def wv (x:Nat):W:=H a7 (x:Int)
def Ws (w:O)(v:W)(l:List Nat):Prop:= ∃b a,v=D b l.length a/\l.length<=a/\a<=cm/\E.Ok l/\b2 w b (l.map wv)
theorem Ws.ok (h:Ws w v l):E.Ok l:=by obtain⟨_,_,_,_,_,h,_⟩:=h;exact h
theorem Ws.shape (h:Ws w v l):∃a n c,v=D a n c:=by obtain⟨a,c,h,_⟩:=h;exact⟨a,_,c,h⟩
theorem Ws.form (h:Ws w v l):∃a c,v=D a l.length c:=by obtain⟨a,c,h,_⟩:=h;exact⟨a,c,h⟩
theorem Ws.up {w ab:O}{v:W}{l:List Nat}(h:Ws w v l)(f:V w ab):Ws ab v l:=by
 obtain⟨a,c,h1,h2,b,d,e⟩:=h;exact⟨a,c,h1,h2,b,d,e.up f⟩
instance Ws.bW {w ab:O} {v:W} {l:List Nat}:Lu (V w ab) (Ws w v l) (Ws ab v l):=bu λu h=>h.up u
theorem Ws.mk (e:n=l.length)(h2:l.length<=c)(a:c<=cm)(b:E.Ok l)(d:b2 w A (l.map wv)):Ws w (D A n c) l:=⟨A,c,by rw[e],h2,a,b,d⟩
theorem Ws.nil (w:O):Ws w (D none 0 0) []:=⟨none,0,rfl,by simp,by simp,E.qF,b2.nil _ _⟩
theorem iQ (h:b2 w A (l.map wv))(a:k<l.length):∃b o,A=U ⟨b,o,none⟩/\b<w.heap.size/\w.cell? ⟨b,o+k,none⟩=U (H a7 ((l[k]:Nat):Int)):=
 h.at_ (by rw[List.getElem?_map,aT a];rfl)
theorem b2.hn {size:Nat}(h:w.ownsRow base e size (D A n c) n xs):b2 w A xs:=λi=>by
 rcases h.2 with⟨h1,rfl⟩|⟨g,l,f,d,_,b,_,_,_,k⟩
 .have:=h.1;simp at this;subst this;simp at i
 .simp at d;obtain⟨rfl,rfl⟩:=d;refine⟨g,0,rfl,(Array.getElem?_eq_some_iff.1 b).1,λj u a=> ?_⟩;rw[Nat.zero_add,cell_of_row w g j f e (0,0) b];rw[<-k,List.getElem?_take]at a
  split at a
  .simpa using a
  .cases a
theorem om {size:Nat}(h:w.ownsRow base e size v n xs):∃a c,v=D a n c/\n<=c/\c<=cm:=by
 rcases h.2 with⟨b,rfl⟩|⟨k,i,j,g,_,l,d,f,_,m⟩
 .exact⟨none,0,b,by simp,by simp⟩
 .exact⟨_,_,g,d,f⟩
theorem Ws.hn {w:O}{base:Nat}{e:an}{v:W}{l:List Nat}(h:w.ownsRow base e 1 v l.length (l.map wv))(b:E.Ok l):Ws w v l:=by
 obtain⟨a,c,rfl,h1,h2⟩:=om h;exact⟨a,c,rfl,h1,h2,b,b2.hn h⟩
def gK (l:List Nat)(w:O)(e:aO)(b:O):Prop:= ∃a,e=aw a/\Ws b a l/\V w b
def j3 (l:List Nat)(w:O)(e:aO)(b:O):Prop:= ∃a,e=aw a/\b.ownsRow w.heap.size 186 1 a l.length (l.map wv)/\E.Ok l/\V w b
theorem j3.ws {e:aO}(h:j3 l w e ab):gK l w e ab:=by
 obtain⟨v,h1,h2,a,b⟩:=h;exact⟨v,h1,Ws.hn h2 a,b⟩
theorem rr:(Tryz.prog.info? 186).map (λi=>(i.zero,i.size,i.bytes))=U (U (H a7 0),1,4):=by kernel_rfl
theorem rt (l:List Nat):∀u∈l.map wv,u.oneCell'=true:=by
 intro u a;obtain⟨b,_,rfl⟩:=List.mem_map.1 a;rfl
def bH (w:O)(g:Nat)(l:List Nat):Prop:=w.heap[g]? =U (ao (l.map wv).toArray 186 (0,0))
theorem bH.lt (h:bH w g l):g<w.heap.size:=(Array.getElem?_eq_some_iff.1 h).1
theorem bH.cell {w:O}{g:Nat}{l:List Nat}(h:bH w g l){i:Nat}(a:i<l.length):w.cell? ⟨g,i,none⟩=U (H a7 ((l[i]:Nat):Int)):=by
 rw[cell_of_row w g i _ _ (0,0) h];simp[wv,a]
theorem bH.free (h:bH w g l)(i:Nat):w.frozen? ⟨g,i,none⟩=false:=by
 unfold bH at h;simp[World.frozen?,h]
theorem bH.set {w:O}{g:Nat}{l:List Nat}(h:bH w g l)(i:Nat)(x:Nat):bH (w.setCell ⟨g,i,none⟩ (H a7 (x:Int))) g (l.set i x):=by
 unfold bH at h|-;simp only[ag,Array.getElem?_modify,h];simp[wv,List.map_set]
theorem bH.drewN {w:O}{g:Nat}{l:List Nat}(h:bH w g l)(n:Nat):bH (w.drewN n) g l:=h
theorem bH.drew {w:O}{g:Nat}{l:List Nat}(h:bH w g l):bH w.drew g l:=h
theorem bH.up (h:bH w g l)(a:V w ab):bH ab g l:=(a.heap h.lt).trans h
instance bH.bW {w ab:O} {g:Nat} {l:List Nat}:Lu (V w ab) (bH w g l) (bH ab g l):=bu λu h=>h.up u
theorem bH.grown (h:bH w g l){row:Option Nat}(a:w.grownBy ab row)(b:U g≠row):bH ab g l:=(a.block g h.lt b).trans h
theorem bH.rd (h:bH w g l):b2 w (U ⟨g,0,none⟩) (l.map wv):=λ_=>by
 refine⟨g,0,rfl,h.lt,λj u a=> ?_⟩;rw[Nat.zero_add,cell_of_row w g j _ _ (0,0) h]
 simpa using a
theorem bH.ws (h:bH w g l)(b:E.Ok l)(a:l.length<=cm):Ws w (D (U ⟨g,0,none⟩) l.length l.length) l:=Ws.mk rfl (a8 _) a b h.rd
theorem bH.own (h:bH w g l)(hb:base<=g)(a:l.length<=cm):w.ownsRow base 186 1 (D (U ⟨g,0,none⟩) l.length l.length) l.length (l.map wv):=
 ⟨by simp,.inr ⟨g,l.length,_,rfl,hb,h,a8 _,a,by simp,by simp[List.take_of_length_le]⟩⟩
theorem iR {o:bt}{a:a6}
 (r:o.guard=none)(d c:Operand)(x:o.op=Op.makeSlice 32 d c)(n:Nat){L:Int}(v:a.eval d=H I L)(q:a.eval c=H I L)(f:L=(n:Int))(K:n<=400000000000)
 (p:∀b,bH b w.heap.size (bA n 0)->V w b->bG ae aV Q rest (a.put o.dst (D (U ⟨w.heap.size,0,none⟩) n n)) b):
 bG ae aV Q (o::rest) a w:=by
 obtain⟨F,u,B,C,E⟩:=info_parts rr;refine wpList_make_full w r d c 32 x w.heap.size 186 F (H a7 0) 1 underlying32 u B C I I L L n v q f f (by rw[E];omega) (by unfold maxLen;omega) (a8 _) ?_;intro b y s;refine p b ?_ ((V.refl w).grown s (λk l=>by cases l));rcases y.2 with⟨m,_⟩|⟨J,G,e,g,_,t,_,_,z,A⟩
 .cases m
 .simp at g;obtain⟨rfl,rfl⟩:=g;unfold bH;rw[t]
  have i:e.toList=(madeCells (H a7 0).cells (n*1)).toList:=by
   rw[<-A,List.take_of_length_le (by simp[z])]
  have j:e=((bA n 0).map wv).toArray:=by
   apply Array.toList_inj.1;rw[i];show(madeCells #[H a7 0] (n*1)).toList=_;rw[toList_madeCells_one,Nat.mul_one,List.map_replicate];rfl
  rw[j]
theorem yx {o:bt}{a:a6}(r:o.guard=none)(d s:Operand)
 (y:o.op= .call {callee:= .builtin .copy,args:=#[d,s],argTypes:=#[32,32]}){g n:Nat}{out l:List Nat}{A:Option am}{c:Nat}(p:a.eval d=D (U ⟨g,0,none⟩) n n)(C:a.eval s=D A l.length c)
 (hb:bH w g out)(x:n=out.length)(H:l.length<=out.length)(B:b2 w A (l.map wv))(E:V w0 w)(q:w0.heap.size<=g)
 (i:∀b,bH b g (l++out.drop l.length)->V w0 b->bG ae aV Q rest (a.put o.dst (goInt l.length)) b):
 bG ae aV Q (o::rest) a w:=by
 have v:(l.map wv).length=l.length:=by simp
 refine(λu=>wpList_copy_splice r d s 32 32 y 186 underlying32 (by kernel_rfl) (U ⟨g,0,none⟩) A n n l.length c p C g 0 (out.map wv) 186 hb (l.map wv) (by simp[Nat.min_def,x];omega) ?_ (by simp;omega) (rt l) w0.heap.size w0 E q u) ?_
 .intro z;refine⟨rfl,?_⟩;obtain⟨G,I,rfl,_,m⟩:=B z;refine⟨_,rfl,λf F t=> ?_⟩;have:=m f F t;unfold Addr.add
  by_cases e:f=0
  .subst e;simpa using this
  .simpa[e]using this
 .intro b k j;rw[v];refine i b ?_ j;have:=k.out;unfold bH;rw[this];simp[splice,List.map_drop]
def oo (l:List Nat)(w:O)(e:aO)(b:O):Prop:= ∃a,e=aw (D (U ⟨a,0,none⟩) l.length l.length)/\bH b a l/\E.Ok l/\w.heap.size<=a/\l.length<=cm/\V w b
theorem oo.own {l:List Nat}{w ab:O}{e:aO}(h:oo l w e ab):j3 l w e ab:=by
 obtain⟨g,h1,h2,a,b,c,d⟩:=h;exact⟨_,h1,h2.own b c,a,d⟩
theorem oq (w:O)(n m:Nat):(w.drewN n).drewN m=w.drewN (n+m):=by simp[World.drewN,Nat.add_assoc]
theorem ru (w:O)(l:List Nat):bH (w.alloc (ao (l.map wv).toArray 186)) w.heap.size l:=heap_alloc_new w _
theorem j4 (l:List Nat)(h:i<l.length):l.getD i 0=l[i]:=by simp[bz,h]
theorem lR (l:List Nat)(h:l.length<=i):l.getD i 0=0:=by simp[bz,List.getElem?_eq_none h]
theorem ed (h:b2 w A (l.map wv))(a:k<l.length):∃b o,A=U ⟨b,o,none⟩/\b<w.heap.size/\w.cell? ⟨b,o+k,none⟩=U (H a7 ((l.getD k 0:Nat):Int)):=by
 rw[j4 l a];exact iQ h a
theorem bH.dO (h:bH w g l)(a:i<l.length):w.cell? ⟨g,i,none⟩=U (H a7 ((l.getD i 0:Nat):Int)):=by rw[j4 l a];exact h.cell a
def yy (l:List Nat)(b:Bool)(w:O)(e:aO)(c:O):Prop:= ∃a,e=aw (aY #[a,J b])/\Ws c a l/\V w c
def yz (l:List Nat)(i:Int)(w:O)(e:aO)(b:O):Prop:= ∃a,e=aw (aY #[a,H I i])/\Ws b a l/\V w b
def hp (w:O)(v:W)(a:List (List Nat)):Prop:=
 ∃d b c,v=D d a.length b/\a.length<=b/\b<=cm/\c.length=a.length/\b2 w d c/\ ∀(e:Nat) g f,c[e]? =U g->a[e]? =U f->Ws w g f
theorem hp.up {w ab:O}{v:W}{ls:List (List Nat)}(h:hp w v ls)(a:V w ab):hp ab v ls:=by
 obtain⟨b,c,vs,h1,h2,d,e,f,g⟩:=h;exact⟨b,c,vs,h1,h2,d,e,f.up a,λi u l k j=>(g i u l k j).up a⟩
instance hp.bW {w ab:O} {v:W} {ls:List (List Nat)}:Lu (V w ab) (hp w v ls) (hp ab v ls):=bu λu h=>h.up u
theorem yA (h:b2 w A vs)(j:vs.length=ls.length)(g:∀(i:Nat) u l,vs[i]? =U u->ls[i]? =U l->Ws w u l)(f:k<ls.length):
 ∃b o u,A=U ⟨b,o,none⟩/\b<w.heap.size/\w.cell? ⟨b,o+k,none⟩=U u/\Ws w u ls[k]:=by
 have a:k<vs.length:=by omega
 obtain⟨b,o,c,d,e⟩:=h.at_ (aT a);exact⟨b,o,vs[k],c,d,e,g k _ _ (aT a) (aT f)⟩
theorem rv {P:Program}{t ty:an}{i:TypeInfo}{size:Nat}(b:P.underlying t=U (.slice e))(a:P.info? e=U i)
 {v:W}{n:Nat}{xs:List W}(f:w.ownsRow base e size v n xs)(c:Nat):(Builtin.append_ #[t,t] ty #[v,D none 0 c]).run P w= .ok v w:=by
 rcases f.2 with⟨rfl,rfl⟩|⟨k,g,j,rfl,_,_,d,_⟩
 .simp[Builtin.append_,run_underlying b,ci,typeInfo,a,Builtin.lenOf,Builtin.firstCells]
 .simp[Builtin.append_,run_underlying b,ci,typeInfo,a,Builtin.lenOf,Builtin.firstCells,d,storeCells]
theorem yB {o:bt}{a:a6}(l:o.guard=none)(s x:Operand)(t:an)
 (r:o.op= .call {callee:= .builtin .append,args:=#[s,x],argTypes:=#[t,t]})
 (base:Nat)(e:an){z:W}{size bytes:Nat}(C:Tryz.prog.underlying t=U (.slice e))(R:(Tryz.prog.info? e).map (λi=>(i.zero,i.size,i.bytes))=U (U z,size,bytes))(af:z.cells.size=size)(Y:0<size)
 {v:W}{n:Nat}{xs:List W}(B:a.eval s=v)(k:w.ownsRow base e size v n xs)
 {A:Option am}{m c:Nat}{hu:List W}(E:a.eval x=D A m c)(y:b2 w A hu)(j:hu.length=m*size)(h1:∀u∈hu,u.oneCell'=true)
 (J:n+m<=cm)(M:(n+m)*bytes<=140737488355328)(L:base<=w.heap.size)
 (h:∀g d,d.ownsRow base e size g (n+m) (xs++hu)->w.grownBy d v.ownBlock->bG ae aV Q rest (a.put o.dst g) d):bG ae aV Q (o::rest) a w:=by
 obtain⟨ag,p,Z,aa,ab⟩:=info_parts R;rcases A with _|ad
 .have T:hu=[]:=by
   rcases Nat.eq_zero_or_pos hu.length with b|b
   .exact List.eq_nil_of_length_eq_zero b
   .obtain⟨G,ah,f,_⟩:=y b;cases f
  subst T
  have S:m=0:=by
   rw[List.length_nil]at j;exact(Nat.mul_eq_zero.1 j.symm).resolve_right (by omega)
  subst S;refine wpList_plain l λai K=> ?_
  have X:=rv (P:=ae) (ty:=o.type) (w:=w) C p k c;unfold Oper.wp;simp[execOp,r,resolve,invoke,builtin,B,E,X,Result.andThen];exact K _ _ (h v w (by simpa using k) ⟨rfl,rfl,rfl,a8 _,λ_ _ _=>rfl⟩)
 .refine wpList_append_own w l s x t r base e ag z size bytes C p Z aa ab af Y v n xs B k ad m c hu E j ?_ h1 J M L (λg d H I _=>h g d H I);intro F u q
  have V:0<hu.length:=by
   rcases Nat.eq_zero_or_pos hu.length with b|b
   .have:=List.eq_nil_of_length_eq_zero b;subst this;simp at q
   .exact b
  obtain⟨G,ah,f,_,N⟩:=y V;simp at f;subst f;have:=N F u q;unfold Addr.add
  by_cases b:F=0
  .subst b;simpa using this
  .simpa[b]using this
theorem yC {o:bt}{a:a6}(j:o.guard=none)(s x:Operand)
 (r:o.op= .call {callee:= .builtin .append,args:=#[s,x],argTypes:=#[32,32]})
 {v:W}{n:Nat}{xs:List Nat}(u:a.eval s=v)(e:w.ownsRow w0.heap.size 186 1 v n (xs.map wv))
 {A:Option am}{m c:Nat}{l:List Nat}(y:a.eval x=D A m c)(t:b2 w A (l.map wv))(q:l.length=m)(hb:n+m<=400000000000)(f:V w0 w)
 (h:∀d b,b.ownsRow w0.heap.size 186 1 d (n+m) ((xs++l).map wv)->V w0 b->bG ae aV Q rest (a.put o.dst d) b):bG ae aV Q (o::rest) a w:=by
 refine yB j s x 32 r w0.heap.size 186 underlying32 rr rfl (by omega) u e y t (by simp[q]) (rt l) (by unfold maxLen;omega) (by omega) f.size ?_;intro d b g i;refine h d b (by rw[List.map_append];exact g) (f.grown i (λk p=> ?_));exact(e.lt k p).1
theorem yD {gL:Nat}{size:Nat}(h:w.ownsRow base e size v n xs)(hb:gL<=base):w.ownsRow gL e size v n xs:=by
 refine⟨h.1,?_⟩;rcases h.2 with d|⟨c,a,b,f,g,i⟩
 .exact .inl d
 .exact .inr ⟨c,a,b,f,aQ hb g,i⟩
theorem yE (b:vs.length=ls.length)(e:n=ls.length)(d:ls.length<=cm)(h:∀(i:Nat) u l,vs[i]? =U u->ls[i]? =U l->Ws w u l):
 hp (w.alloc (ao vs.toArray 32)) (D (U ⟨w.heap.size,0,none⟩) n n) ls:=by
 subst e;refine⟨_,_,vs,rfl,a8 _,d,b,λj=> ?_,λi u l f c=>(h i u l f c).up ((V.refl w).alloc _)⟩;refine⟨w.heap.size,0,rfl,by simp,λg u a=> ?_⟩;rw[Nat.zero_add,cell_of_row _ _ g _ _ (0,0) (heap_alloc_new w _)]
 simpa using a
theorem rx {w:O}{a b:W}{l m:List Nat}(ha:Ws w a l)(hb:Ws w b m):hp (w.alloc (ao #[a,b] 32)) (D (U ⟨w.heap.size,0,none⟩) 2 2) [l,m]:=by
 refine yE (vs:=[a,b]) rfl rfl (by simp[cm]) ?_;intro f e k c d
 match f with
 |0=>simp at c d;subst c d;exact ha
 |1=>simp at c d;subst c d;exact hb
 |f+2=>simp at c
def ot (v:W)(l:List Nat)(w:O)(e:aO)(c:O):Prop:=
 ∃b a,e=aw (D b (E.trim l).length a)/\v=D b l.length a/\l.length<=a/\a<=cm/\E.trim l=l.take (E.trim l).length/\w=c
theorem ry (h:E.trim l=l.take n)(a:n<=l.length):(E.trim l).length=n:=by rw[h,List.length_take];omega
theorem yF (h:Ws w v l)(B:l.length<=100000000000):
 aj ae 96 #[v] w (ot v l w):=by
 obtain⟨x,p,rfl,r,s,z,u⟩:=h;have k:=G s;clear s;go_enter func96,ntmps96;go_wp2
 go_loop [3] (λj=> ∃n:Nat,j=H I n/\n<=l.length/\Y (E.trim (l.take n)=E.trim l)) (λj=>(aI j).toNat)
 case atStart=>exact⟨l.length,rfl,a8 _,G (by rw[co])⟩
 case round=>
  obtain⟨n,rfl,m,f⟩:=hrel
  match n,m,f with
  |0,m,f=>
   have e:E.trim l=l.take 0:=f.out.symm;have b:=ry e (by omega);have d:=G e;have a:=G b;clear e b;go_wp2;go_ret;refine⟨_,p,?_,rfl,r,k.out,by rw[a.out];exact d.out,rfl⟩;rw[a.out];rfl
  |n+1,m,f=>
   have g:n<l.length:=by exact m
   obtain⟨y,o,rfl,hb,A⟩:=iQ u g
   by_cases q:l[n]=0
   .have i:=E.qJ g q;rw[f.out]at i;have t:=G i.symm;clear i;go_wp2
    go_round
    case rel=>exact⟨n,rfl,by omega,t⟩
    case measure=>simp[aI]
   .have c:=E.wM g q;rw[f.out]at c;have b:=ry c (by omega);have d:=G c;have a:=G b;clear c b;go_wp2;go_ret;refine⟨_,p,?_,rfl,r,k.out,by rw[a.out];exact d.out,rfl⟩;rw[a.out];rfl
theorem ot.ws {e:aO}(h:ot v l w e ab)(hw:Ws w v l):∃d,e=aw d/\Ws ab d (E.words (E.val l))/\w=ab:=by
 obtain⟨i,c,rfl,rfl,h1,h2,f,rfl⟩:=h;obtain⟨j,k,b,_,_,a,g⟩:=hw;simp at b;obtain⟨rfl,rfl⟩:=b;refine⟨_,rfl,?_,rfl⟩;rw[E.jN a];refine Ws.mk rfl (aQ (E.nU l) h1) h2 (E.wJ a) ?_;rw[f,List.map_take];exact g.take _
theorem f5 (h:Ws w v l)(c:l.length<=100000000000):
 aj ae 96 #[v] w λe b=> ∃a,e=aw a/\Ws b a (E.words (E.val l))/\w=b:=
 (yF h c).mono λ_ _ k=>k.ws h
theorem lS {m:Int}(M:Nat)(j:m=M)(h:Ws w v l)(t:l.length<=100000000000)(s:M<=100000000000):
 aj ae 149 #[v,H I m] w (oo (l++bA M 0) w):=by
 subst j;obtain⟨n,q,rfl,r,b,f,g⟩:=h;have p:=G b;clear b;go_enter func149,ntmps149;go_wp2_with(at_make;go_loud (refine iR rfl _ _ rfl (l.length+M) rfl rfl ?_ ?_ ?_))
 .omega
 .omega
 intro w1 i d;go_wp2_with(with_reducible show bG _ _ _ _ _ _;refine yx (o:=⟨U 13,_,_,_,_,_⟩) rfl _ _ rfl rfl rfl i (by simp) (by simp) (g.up d) d (a8 _) ?_;intro w2 c k);go_wp2;go_ret;have e:l++List.drop l.length (bA (l.length+M) 0)=l++bA M 0:=by simp
 rw[e]at c;have a:(l++bA M 0).length=l.length+M:=by simp
 refine⟨w.heap.size,?_,c,E.qG.2 ⟨f,E.iK _⟩,a8 _,by rw[a];unfold maxLen;omega,k⟩;rw[a];rfl
theorem fv (a:E.Ok l)(h:l.length<=n):(E.words (E.val l)).length<=n:=aQ (E.cr a) h
theorem eI (h:Ws w v l)(c:l.length<=100000000000):aj ae 112 #[v] w (j3 (E.words (E.val l)) w):=by
 go_enter func112,ntmps112;go_wp2_with fail;refine(f5 h c).mono ?_;rintro d k ⟨j,rfl,e,rfl⟩;go_wp2_with fail;refine(lS 0 rfl e (fv h.ok c) (by omega)).mono ?_;intro d w1 g;obtain⟨i,rfl,a,b,f⟩:=g.own;rw[List.replicate_zero,List.append_nil]at a b;go_wp2;go_ret;exact⟨i,rfl,a,b,f⟩
theorem iS (h:Ws w v l)(f:l.length<=100000000000):aj ae 97 #[v] w λe b=>e=aw (J (decide (E.val l=0)))/\w=b:=by
 go_enter func97,ntmps97;go_wp2_with fail;refine(f5 h f).mono ?_;rintro e b ⟨n,rfl,c,rfl⟩;obtain⟨g,i,rfl,j,d,k,m⟩:=c;have a:(((E.words (E.val l)).length:Int)==0)=decide (E.val l=0):=by rw[Bool.eq_iff_iff];simp[E.qK]
 have aq:=G a;clear a d;go_wp2;go_ret;rw[<-aq.out];exact⟨rfl,rfl⟩
theorem h7 {n:Int}(X:Nat)(e:n=X)(j:X<18446744073709551616)(w:O):aj ae 53 #[H .u64 n] w (gK (E.words X) w):=by
 subst e
 have d:Ws (w.alloc (ao #[H a7 ((X:Int)%4294967296),H a7 ((X:Int)/4294967296)] 186)) (D (U ⟨w.heap.size,0,none⟩) 2 2) [X%4294967296,X/4294967296]:=by
  refine bH.ws (l:=[X%4294967296,X/4294967296]) (ru w [X%4294967296,X/4294967296]) ?_ (by simp[cm]);intro m f;rw[E.bL];simp at f;omega
 have b:E.val [X%4294967296,X/4294967296]=X:=by
  simp only[E.val,E.bL];omega
 have c:=G b;clear b;go_enter func53,ntmps53;go_wp2_with fail;refine(f5 d (by simp)).mono ?_;rintro i k ⟨g,rfl,a,rfl⟩;rw[c.out]at a;go_wp2;go_ret;exact⟨g,rfl,a,(V.refl w).alloc _⟩
theorem lT {b:List Nat}(ha:Ws w v a)(hb:Ws w u b)(y:a.length<=100000000000)(z:b.length<=100000000000):
 aj ae 163 #[v,u] w λe B=> ∃n,e=aw (H I (E.dk (E.val a) (E.val b)))/\B=w.drewN n:=by
 go_enter func163,ntmps163;go_wp2_with fail;refine(f5 ha y).mono ?_;rintro e B ⟨aA,rfl,aa,rfl⟩;go_wp2_with fail;refine(f5 hb z).mono ?_;rintro e B ⟨az,rfl,ab,rfl⟩;have X:=fv ha.ok y;have Z:=fv hb.ok z;have t:=G (E.bl (E.val a));have x:=G (E.bl (E.val b));have r:= @E.qO (E.val a) (E.val b);have o:= @E.qO (E.val b) (E.val a);generalize E.words (E.val a)=c at*;generalize E.words (E.val b)=d at*;have S:=G r;have R:=G o;clear r o ha hb y z;obtain⟨ak,an,rfl,af,p3,K,L⟩:=aa;obtain⟨ai,ao,rfl,ag,ah,M,N⟩:=ab;have U:=G K;have V:=G M;clear p3 ah K M;rcases Nat.lt_trichotomy c.length d.length with r|heq|o
 .have s:=G (E.jf (S.out r));go_wp2;go_ret;exact⟨0,by rw[s.out];rfl,rfl⟩
 .obtain⟨j,l⟩:∃j,j=c.length:=⟨_,rfl⟩;have C:=G heq;have i:=G l;rw[<-heq,<-l]at ag Z|-;rw[<-l]at af X;clear heq l;go_wp2
  go_loopw[5] (λA wr=> ∃k n:Nat,A=H I ((k:Int)-1)/\k<=j/\wr=w.drewN n/\Y (c.drop k=d.drop k)) (λA _=>(aI A+1).toNat)
  case atStart=>exact⟨j,0,rfl,a8 _,rfl,G (by rw[List.drop_eq_nil_of_le (by have:=i.out;omega),List.drop_eq_nil_of_le (by have:=i.out;have:=C.out;omega)])⟩
  case round=>
   obtain⟨k,n,rfl,m,rfl,f⟩:=hrel
   match k,m,f with
   |0,m,f=>
    have J:c=d:=f.out;have g:=G (E.lH (a:=E.val a) (b:=E.val b) (by rw[<-t.out,<-x.out,J]));clear J;go_wp2;go_ret;exact⟨n,by rw[g.out];rfl,rfl⟩
   |k+1,m,f=>
    have p:k<c.length:=by rw[<-i.out];exact m
    have q:k<d.length:=by rw[<-C.out,<-i.out];exact m
    obtain⟨al,ax,rfl,aq,au⟩:=iQ L p;obtain⟨am,ay,rfl,ar,av⟩:=iQ N q;clear L N;have F:((k+1:Nat):Int)-1=k:=by omega
    rw[F];clear F;rcases Nat.lt_trichotomy c[k] d[k]with h|h|h
    .have g:=G (E.jf (a:=E.val a) (b:=E.val b) (by rw[<-t.out,<-x.out];exact E.qP U.out p q f.out h));generalize c[k]=P at*;generalize d[k]=Q at*;go_wp2
     go_quiet (fail)
     go_wp2;go_ret;exact⟨n+nq,by rw[g.out];rfl,oq _ _ _⟩
    .have T:=G (E.wS p q f.out h);generalize c[k]=P at*;generalize d[k]=Q at*;subst h;go_wp2
     go_quiet (fail)
     go_wp2
     go_quiet (fail)
     go_wp2
     go_roundw
     case rel=>exact⟨k,_,rfl,by omega,rfl,T⟩
     case measure=>simp[aI]
    .have g:=G (E.n5 (a:=E.val a) (b:=E.val b) (by rw[<-t.out,<-x.out];exact E.qP V.out q p f.out.symm h));generalize c[k]=P at*;generalize d[k]=Q at*;go_wp2
     go_quiet (fail)
     go_wp2
     go_quiet (fail)
     go_wp2;go_ret;exact⟨_,by rw[g.out];rfl,by rw[oq,oq]⟩
 .have s:=G (E.n5 (R.out o));go_wp2;go_ret;exact⟨0,by rw[s.out];rfl,rfl⟩
theorem yG {b:List Nat}(ha:Ws w v a)(hb:Ws w u b)(aK:a.length<=99999999999)(al:b.length<=a.length):
 aj ae 169 #[v,u] w (gK (E.words (E.val a+E.val b)) w):=by
 have af:=ha;obtain⟨az,aC,rfl,aM,p3,N,ar⟩:=ha;obtain⟨ai,aD,rfl,aN,au,P,av⟩:=hb;have X:=G N;have Z:=G P;clear p3 au N P;go_enter func169,ntmps169;go_wp2_with fail;refine(lS 1 rfl af (by omega) (by omega)).mono ?_;rintro m w1 ⟨n,rfl,z,A,p,aa,ab⟩;have g:(a++bA 1 0).length=a.length+1:=by simp
 rw[g];generalize a++bA 1 0=M at z A g;have R:=G g;clear g aa;go_wp2_with fail
 go_loopw[6,20] (λaw s wr=> ∃(i cy:Nat) (o:List Nat),aw=H a7 cy/\s=H I i/\i<=a.length/\Y (o.length=a.length+1)/\E.Ok o/\bH wr n o/\V w wr/\E.jg a b o i cy) (λ_ s _=>a.length-(aI s).toNat)
 case atStart=>exact⟨0,0,M,rfl,rfl,bn _,R,A,z,ab,E.qQ _ _ _⟩
 case round=>
  obtain⟨i,cy,o,rfl,rfl,aJ,c,K,d,e,B⟩:=hrel;have x:=G K;have f:=G B;clear K B
  by_cases am:i<a.length
  .have j:cy<E.B:=Nat.lt_of_le_of_lt f.out.1 E.fM;have q:=E.cW X.out i;have r:=E.cW Z.out i;have F:i<o.length:=by rw[c.out];omega
   have k:=G (E.qR F q r f.out);have ao:=E.jd (a.getD i 0) (b.getD i 0) cy;have l:=G (E.eB x.out i ao);obtain⟨aA,M,rfl,aE,aG⟩:=ed (ar.up e) am;have ag:=d.dO F;have ah:=d.free i
   by_cases an:i<b.length
   .obtain⟨aB,aL,rfl,aF,aH⟩:=ed (av.up e) an;generalize a.getD i 0=t at*;generalize b.getD i 0=ay at*;generalize o.getD i 0=Q at*;go_wp2_with fail;refine(gJ t ay cy rfl rfl rfl q r j _).mono ?_;rintro m w2 ⟨rfl,rfl⟩;go_wp2
    go_roundw
    case rel=>exact⟨i+1,_,_,rfl,by go_num,by omega,by rw[List.length_set];exact c,l.out,d.set i _,e.setCell p _,k.out⟩
    case measure=>simp[aI];omega
   .have L:=lR b (i:=i) (by omega);rw[L]at k l;clear L r;generalize a.getD i 0=t at*;generalize o.getD i 0=Q at*;go_wp2_with fail;refine(gJ t 0 cy rfl rfl rfl q E.b0 j _).mono ?_;rintro m w2 ⟨rfl,rfl⟩;go_wp2
    go_roundw
    case rel=>exact⟨i+1,_,_,rfl,by go_num,by omega,by rw[List.length_set];exact c,l.out,d.set i _,e.setCell p _,k.out⟩
    case measure=>simp[aI];omega
  .obtain rfl:i=a.length:=by omega
   have ak:a.length<o.length:=by rw[c.out];omega
   have j:cy<E.B:=Nat.lt_of_le_of_lt f.out.1 E.fM;have ag:=d.dO ak;have ah:=d.free a.length;have C:=E.qS (a8 _) al c.out f.out
   have aq:Ws (wr.setCell ⟨n,a.length,none⟩ (H a7 (cy:Int))) (D (U ⟨n,0,none⟩) (a.length+1) (a.length+1)) (o.set a.length cy):=by
    have:=(d.set a.length cy).ws (E.eB x.out _ j) (by rw[List.length_set,c.out];unfold maxLen;omega);rw[List.length_set,c.out]at this;exact this
   have J:(o.set a.length cy).length<=100000000000:=by rw[List.length_set,c.out];omega
   have S:=G C;have T:=G J;clear C J;generalize o.getD a.length 0=Q at*;go_wp2_with fail;refine(f5 aq T.out).mono ?_;rintro m w2 ⟨ax,rfl,y,rfl⟩;rw[S.out]at y;go_wp2;go_ret;exact⟨ax,rfl,y,e.setCell p _⟩
theorem yH {b:List Nat}(ha:Ws w v a)(hb:Ws w u b)(aL:a.length<=99999999999)(am:b.length<a.length):
 aj ae 169 #[u,v] w (gK (E.words (E.val a+E.val b)) w):=by
 have al:b.length<=a.length:=Nat.le_of_lt am;have af:=ha;obtain⟨aA,aD,rfl,aN,p3,N,au⟩:=ha;obtain⟨ai,aE,rfl,aO,av,P,aw⟩:=hb;have X:=G N;have Z:=G P;clear p3 av N P;go_enter func169,ntmps169;go_wp2_with fail;refine(lS 1 rfl af (by omega) (by omega)).mono ?_;rintro m w1 ⟨n,rfl,z,A,p,aa,ab⟩;have g:(a++bA 1 0).length=a.length+1:=by simp
 rw[g];generalize a++bA 1 0=M at z A g;have R:=G g;clear g aa;go_wp2_with fail
 go_loopw[6,20] (λax s wr=> ∃(i cy:Nat) (o:List Nat),ax=H a7 cy/\s=H I i/\i<=a.length/\Y (o.length=a.length+1)/\E.Ok o/\bH wr n o/\V w wr/\E.jg a b o i cy) (λ_ s _=>a.length-(aI s).toNat)
 case atStart=>exact⟨0,0,M,rfl,rfl,bn _,R,A,z,ab,E.qQ _ _ _⟩
 case round=>
  obtain⟨i,cy,o,rfl,rfl,aK,c,K,d,e,B⟩:=hrel;have x:=G K;have f:=G B;clear K B
  by_cases an:i<a.length
  .have j:cy<E.B:=Nat.lt_of_le_of_lt f.out.1 E.fM;have q:=E.cW X.out i;have r:=E.cW Z.out i;have F:i<o.length:=by rw[c.out];omega
   have k:=G (E.qR F q r f.out);have aq:=E.jd (a.getD i 0) (b.getD i 0) cy;have l:=G (E.eB x.out i aq);obtain⟨aB,M,rfl,aF,aH⟩:=ed (au.up e) an;have ag:=d.dO F;have ah:=d.free i
   by_cases ao:i<b.length
   .obtain⟨aC,aM,rfl,aG,aJ⟩:=ed (aw.up e) ao;generalize a.getD i 0=t at*;generalize b.getD i 0=az at*;generalize o.getD i 0=Q at*;go_wp2_with fail;refine(gJ t az cy rfl rfl rfl q r j _).mono ?_;rintro m w2 ⟨rfl,rfl⟩;go_wp2
    go_roundw
    case rel=>exact⟨i+1,_,_,rfl,by go_num,by omega,by rw[List.length_set];exact c,l.out,d.set i _,e.setCell p _,k.out⟩
    case measure=>simp[aI];omega
   .have L:=lR b (i:=i) (by omega);rw[L]at k l;clear L r;generalize a.getD i 0=t at*;generalize o.getD i 0=Q at*;go_wp2_with fail;refine(gJ t 0 cy rfl rfl rfl q E.b0 j _).mono ?_;rintro m w2 ⟨rfl,rfl⟩;go_wp2
    go_roundw
    case rel=>exact⟨i+1,_,_,rfl,by go_num,by omega,by rw[List.length_set];exact c,l.out,d.set i _,e.setCell p _,k.out⟩
    case measure=>simp[aI];omega
  .obtain rfl:i=a.length:=by omega
   have ak:a.length<o.length:=by rw[c.out];omega
   have j:cy<E.B:=Nat.lt_of_le_of_lt f.out.1 E.fM;have ag:=d.dO ak;have ah:=d.free a.length;have C:=E.qS (a8 _) al c.out f.out
   have ar:Ws (wr.setCell ⟨n,a.length,none⟩ (H a7 (cy:Int))) (D (U ⟨n,0,none⟩) (a.length+1) (a.length+1)) (o.set a.length cy):=by
    have:=(d.set a.length cy).ws (E.eB x.out _ j) (by rw[List.length_set,c.out];unfold maxLen;omega);rw[List.length_set,c.out]at this;exact this
   have J:(o.set a.length cy).length<=100000000000:=by rw[List.length_set,c.out];omega
   have S:=G C;have T:=G J;clear C J;generalize o.getD a.length 0=Q at*;go_wp2_with fail;refine(f5 ar T.out).mono ?_;rintro m w2 ⟨ay,rfl,y,rfl⟩;rw[S.out]at y;go_wp2;go_ret;exact⟨ay,rfl,y,e.setCell p _⟩
theorem yI {b:List Nat}(ha:Ws w v a)(hb:Ws w u b)(d:a.length<=99999999999)(e:b.length<=99999999999):
 aj ae 169 #[v,u] w (gK (E.words (E.val a+E.val b)) w):=by
 by_cases c:b.length<=a.length
 .exact yG ha hb d c
 .rw[Nat.add_comm];exact yH hb ha e (by omega)
theorem rz {b:List Nat}(ha:Ws w v a)(hb:Ws w u b)(z:a.length<=100000000000)(A:b.length<=100000000000)(B:E.val b<=E.val a):
 aj ae 170 #[v,u] w (yy (E.words (E.val a-E.val b)) true w):=by
 go_enter func170,ntmps170;go_wp2_with fail;refine(f5 ha z).mono ?_;rintro e ak ⟨ah,rfl,s,rfl⟩;go_wp2_with fail;refine(f5 hb A).mono ?_;rintro e ak ⟨aZ,rfl,t,rfl⟩;go_wp2_with fail;have K:=fv ha.ok z;have au:=fv hb.ok A;refine(lT s t K au).mono ?_;rintro e ak ⟨ab,rfl,rfl⟩
 have aT:0<=E.dk (E.val (E.words (E.val a))) (E.val (E.words (E.val b))):=by
  rw[E.bl,E.bl];have:= @E.n6 (E.val a) (E.val b);omega
 have ax:=E.eS B;have al:=G (E.bl (E.val a));have am:=G (E.bl (E.val b));have Z:E.val (E.words (E.val b))<=E.val (E.words (E.val a)):=by rw[E.bl,E.bl];exact B
 generalize E.words (E.val a)=c at*;generalize E.words (E.val b)=j at*;generalize E.dk (E.val c) (E.val j)=aM at*;have ao:=G Z;clear ha hb z A B Z;have k:V w (w.drewN ab):=(V.refl w).drewN ab;have S:=s.up k;have T:=t.up k;obtain⟨aH,aL,rfl,aX,p3,af,aB⟩:=s;obtain⟨ai,aN,rfl,aY,aC,ag,aD⟩:=t;have aq:=G af;have ar:=G ag;clear p3 aC af ag;go_wp2_with fail;refine(lS 0 rfl S K (by omega)).mono ?_;rintro e w1 ⟨r,rfl,M,N,P,av,Q⟩;rw[List.replicate_zero,List.append_nil]at M N|-;clear S T av;have aw:V w w1:=k.trans Q;have R:w.heap.size<=r:=P;clear P Q k;go_wp2_with fail
 go_loopw[7,22] (λaE F wr=> ∃(i cy:Nat) (o:List Nat),aE=H a7 cy/\F=H I i/\i<=c.length/\Y (o.length=c.length)/\Y (E.Ok o)/\bH wr r o/\V w wr/\Y (E.jQ c j o i cy)) (λ_ F _=>c.length-(aI F).toNat)
 case atStart=>exact⟨0,0,c,rfl,rfl,bn _,G rfl,G N,M,aw,G (E.wU _ _ _)⟩
 case round=>
  obtain⟨i,cy,o,rfl,rfl,aU,d,p,f,g,m⟩:=hrel
  by_cases ay:i<c.length
  .have x:cy<E.B:=Nat.lt_of_le_of_lt m.out.1 E.fM;have C:=E.cW aq.out i;have l:=E.cW ar.out i;have X:i<o.length:=by rw[d.out];omega
   have n:=G (E.wW X l m.out);have q:=G (E.eB p.out i (E.nX C l x));obtain⟨aJ,aV,rfl,T,aP⟩:=ed (aB.up g) ay;have aR:=f.dO X;have aS:=f.free i
   by_cases az:i<j.length
   .obtain⟨aK,aW,rfl,aO,aQ⟩:=ed (aD.up g) az;generalize c.getD i 0=J at*;generalize j.getD i 0=aF at*;generalize o.getD i 0=aG at*;go_wp2_with fail;refine(lP J aF cy rfl rfl rfl C l x _).mono ?_;rintro e w2 ⟨rfl,rfl⟩;go_wp2
    go_roundw
    case rel=>exact⟨i+1,_,_,rfl,by go_num,by omega,G (by rw[List.length_set];exact d.out),q,f.set i _,g.setCell R _,n⟩
    case measure=>simp[aI];omega
   .have aa:=lR j (i:=i) (by omega);rw[aa]at n q;clear aa l;generalize c.getD i 0=J at*;generalize o.getD i 0=aG at*;go_wp2_with fail;refine(lP J 0 cy rfl rfl rfl C E.b0 x _).mono ?_;rintro e w2 ⟨rfl,rfl⟩;go_wp2
    go_roundw
    case rel=>exact⟨i+1,_,_,rfl,by go_num,by omega,G (by rw[List.length_set];exact d.out),q,f.set i _,g.setCell R _,n⟩
    case measure=>simp[aI];omega
  .obtain rfl:i=c.length:=by omega
   have y:=(E.wX p.out d.out ax ao.out m.out).1;rw[al.out,am.out]at y
   have aA:Ws wr (D (U ⟨r,0,none⟩) c.length c.length) o:=by
    have:=f.ws p.out (by rw[d.out];unfold maxLen;omega);rw[d.out]at this;exact this
   have an:=G y;clear y;go_wp2_with fail;refine(f5 aA (by rw[d.out];omega)).mono ?_;rintro e w2 ⟨ah,rfl,L,rfl⟩;rw[an.out]at L;go_wp2
   go_ret2
   exact⟨ah,rfl,L,g⟩
theorem lU {b:List Nat}(ha:Ws w v a)(hb:Ws w u b)(k:a.length<=100000000000)(l:b.length<=100000000000):
 aj ae 136 #[v,u] w (yz (E.words (E.iM (E.val a) (E.val b))) (E.dk (E.val a) (E.val b)) w):=by
 go_enter func136,ntmps136;go_wp2_with fail;refine(lT ha hb k l).mono ?_;rintro n w1 ⟨r,rfl,rfl⟩;have e:V w (w.drewN r):=(V.refl w).drewN r;have o:=ha.up e;have p:=hb.up e;rcases E.lI (E.val a) (E.val b)with⟨d,c⟩|⟨d,c⟩|⟨d,c⟩
 .have f:=G c;rw[c];clear c;have g:=G (E.wP d);go_wp2_with fail;refine(rz p o l k (Nat.le_of_lt d)).mono ?_;rintro n w2 ⟨m,rfl,i,j⟩;go_wp2
  go_ret2
  exact⟨m,by rw[f.out];rfl,by rw[g.out];exact i,e.trans j⟩
 all_goals
  have f:=G c;rw[c];clear c;have q:E.val b<=E.val a:=by omega
  have g:=G (E.wQ q);clear d;go_wp2_with fail;refine(rz o p k l q).mono ?_;rintro n w2 ⟨m,rfl,i,j⟩;go_wp2
  go_ret2
  exact⟨m,by rw[f.out];rfl,by rw[g.out];exact i,e.trans j⟩
theorem rA (h:hp w v ls)(Q:ls.length<=100000000000)(f:∀l∈ls,l.length<=100000000)(i:(E.words (E.e6 ls)).length<=100000000):
 aj ae 135 #[v] w (gK (E.words (E.e6 ls)) w):=by
 obtain⟨K,L,X,rfl,R,p3,n,F,o⟩:=h;have t:=G n;have u:=G o;have q:=G f;have s:=G i;clear p3 n o f i;go_enter func135,ntmps135;go_wp2
 go_loopw[3,8] (λJ d wr=> ∃(k:Nat),d=H I k/\k<=ls.length/\Ws wr J (E.words (E.e6 (ls.take k)))/\V w wr) (λ_ d _=>ls.length-(aI d).toNat)
 case atStart=>exact⟨0,rfl,bn _,by rw[List.take_zero,E.wY,E.en];exact Ws.nil _,V.refl _⟩
 case round=>
  obtain⟨k,rfl,N,c,a⟩:=hrel
  by_cases b:k<ls.length
  .obtain⟨x,D,T,rfl,z,e,m⟩:=yA F t.out u.out b;have M:=(a.cell (p:=⟨x,D+k,none⟩) z).trans e;have A:ls[k].length<=100000000:=q.out _ (cq b);have P:(E.words (E.e6 (ls.take k))).length<=100000000:=aQ (E.w9 ls k) s.out;have g:=E.wZ b;have r:=G g;clear g e;go_wp2_with fail;refine(f5 (m.up a) (by omega)).mono ?_;rintro y w2 ⟨U,rfl,B,rfl⟩;go_wp2_with fail;refine(yI c B (by omega) (by have:=fv m.ok A;omega)).mono ?_;rintro y w2 ⟨S,rfl,j,C⟩;rw[E.bl,E.bl,<-r.out]at j;go_wp2
   go_roundw
   case rel=>exact⟨k+1,by go_num,by omega,j,a.trans C⟩
   case measure=>simp[aI];omega
  .obtain rfl:k=ls.length:=by omega
   rw[co]at c;go_wp2;go_ret;exact⟨_,rfl,c,a⟩
end Go.Proofs.YtjopfpegcckllaaGreatDoor
