/- A part of TopStops's proof: SvPast SvSeg SvOf SvPull. -/
import Derived.LoopN
import Derived.Deep.DeepCutAuto
import Derived.Test.YtjopfpegcckllaaGreatDoorZqAn
set_option linter.all false
set_option maxRecDepth 100000
set_option maxHeartbeats 12800000
open Go.Proofs.Tryz
open Go renaming World→O,Value→W,wpAnyH→bJ,AllReadyH→b5,Calls→aj,Addr→am,TypeId→an,Ending→aO,sizeOf→ci,rounds_succ→a9,isAgg→ct,bodyPost_ret→a4,wp_region_noPanic→aZ,wp_region_held_drew→a3,wpAnyH_done→aW
open Go.Act renaming put→bg
open Go.AllReadyH renaming cons→av,nil→bm
open Go.Ending renaming returned→aw
open Go.IntKind renaming i64→I
open Go.Lib renaming hid→G
open Go.NoPanic renaming normal→aX
open Go.Obj renaming cells→ao
open Go.Proofs.Tryz renaming prog→ae
open Go.RowKit renaming Hid→Y,intOf→aI
open Go.Value renaming tuple→aY,int→H,bool→J,slice→D,agg→af,pointer→az,string→al
open Go.World renaming setCell→ag,alloc→ah
open List renaming replicate→bA,take_length→co
open Nat renaming le_refl→a8,le_trans→aQ,zero_le→bn
open Option renaming some→U
variable {α:Type}{gs s s1 s2:Bool}{l:List (Int×Int)}{ls:List (Option (List Rat))}{qs y y1 y2:List Rat}{new old vs x xs:List W}{K a aH b c c1 c2 c3 c4 c5 cB cS cT cY ca cb cc ce cp d d1 d2 e1 e2 e3 e4 e5 g gX gb hG iB j jz ky m m1 m2 n n0 n1 n2 p0 p4 p5 p6:Nat}{ab w w0 w1:O}{A A1 A2 A3 A4 A5 AS AT AY D1 D2 D3 D4 D5 DA GA GD GP GY PA SA SB SC SE TA TB ai:Option am}{h h1 h2 o t t1 t2 z:Rat}{u v:W}{e:aO}{T:an}
namespace Go.Proofs.YtjopfpegcckllaaGreatDoor
open Go.RowKit
def Td.q (z:Td):Pb:=⟨z.code,z.os,z.ar,z.par,z.nm,z.c,z.a,z.b,z.e,aN z.p,z.bits⟩
def Td.k (z:Td):Z.Tk:=⟨z.q.pr,⟨z.r1.val,z.r2.val,z.r3.val,z.r4.val,z.r5.val,z.fi,z.mo⟩,z.rS.val,z.rE.val,z.rF.val,aN z.y⟩
def Td.ok (z:Td):Bool:=Z.fp z.q (Pc.de (List.all [z.r1,z.r2,z.r3,z.r4,z.r5] bV) z.r1.val z.r2.val z.r3.val z.r4.val z.r5.val z.fi z.mo==0) z.y.length z.rS.val z.rE.val z.rF.val
def Td.wC (z:Td):Prop:=uY z.code z.os.length z.nm z.c z.a z.b z.e z.p z.bits z.mo [z.r1,z.r2,z.r3,z.r4,z.r5,z.rS,z.rE,z.rF] z.y
theorem ay.bd.mono {r:ay}{k:Nat}(h:r.bd j)(a:j<=k):r.bd k:=⟨aQ h.1 a,aQ h.2 a⟩
theorem R2.fr {r:ay}(h:R2 w A ai c d r)(a:r.bd 2):Fr w (af #[J r.1,D A r.2.1.length c,D ai r.2.2.length d]) r.val 2:=⟨_,_,_,_,_,rfl,h.1,h.2,rfl,a.1,a.2,by omega⟩
theorem vi {P:O->List W->α->Prop}{l:List α}(h:Sn P w (D A n c) l):n<=9223372036854775807:=by
 obtain⟨_,_,e,a,d,b,_⟩:=h;cases a;unfold maxLen at b;omega
theorem EL {P:O->W->α->Prop}{l:List (List α)}(h:cU P w (D A n c) l):n<=9223372036854775807:=by
 obtain⟨_,_,e,a,d,b,_⟩:=h;cases a;unfold maxLen at b;omega
theorem vj (w:O):(ct 38).run ae w= .ok true w:=by kernel_rfl
theorem vk (w:O):(ci 38).run ae w= .ok 38 w:=by kernel_rfl
theorem dU.GR {z:Td}(h:dU w xs z):aj ae 4 #[af xs.toArray] w (kT z.wC w):=by
 obtain⟨y,A,v,t,u,x,s,c,d,e,f,g,k,l,m,n,o,AS,r,i,p,j,q,B,C,D,I,H,cb,J,K,c1,c2,c3,c4,c5,P,Q,R,S,T,cS,N,E,L,F,M,G,rfl,a,_,_,b⟩:=h;exact EK a.t a.s a.p (vi a.t) (vi a.o) (EL a.s.a) b
structure i8 (z:Td):Prop where
 s:uT z
 pb:eD z.q
 r:∀r∈[z.r1,z.r2,z.r3,z.r4,z.r5,z.rS,z.rE,z.rF],r.bd 2
 p:∀r∈z.p,r.bd 2
 y:∀r∈z.y,r.bd 2
 i:nw z
 mo:¬(12<z.mo/\z.mo<=200)
theorem Td.fact {z:Td}(h:z.wC)(i:nw z):i8 z:=by
 have a:∀{l:List ay},l.length<=4->l.length<=10:=λh=>by omega
 refine⟨⟨⟨by have:=h.p.t.1;omega,by have:=h.p.t.2.1;omega,⟨by have:=h.p.s.c.1;omega,by have:=h.p.s.la;omega,by have:=h.p.s.b.1;omega,by have:=h.p.s.e.1;omega⟩,λl a=>by have:=(h.p.s.a l a).1;omega,by have:=h.p.p.1;omega⟩,by have:=h.y.1;omega⟩,
  ⟨λj d=>(h.p.t.2.2 j d).mono (by omega),by have b:=h.p.t.1;show z.code.length<=_;omega,by have b:=h.p.t.2.1;show z.os.length<=_;omega,i.ar,i.par,
    ⟨by have b:=h.p.s.n;show z.nm.size<=_;omega,a h.p.s.c.1,by have b:=h.p.s.la;show z.a.length<=_;omega,a h.p.s.b.1,a h.p.s.e.1,λl c=>a (h.p.s.a l c).1,h.p.s.c.2,λl c=>(h.p.s.a l c).2,h.p.s.b.2,h.p.s.e.2⟩,
    by have b:=h.p.p.1;show(aN z.p).length<=_;unfold aN;rw[List.length_map];omega,i.bits⟩,h.rs,h.p.p.2,h.y.2,i,h.mo⟩
theorem nz (l:List ay):(aN l).length=l.length:=by unfold aN;rw[List.length_map]
theorem fo.pb {z:Td}(a:i8 z)(h:fo w (D TA z.code.length aH) (D TB z.os.length cB) (D SC z.c.length cc) (D SA z.a.length ca) (D SB z.b.length cb) (D SE z.e.length ce) (D PA z.p.length cp) z.code z.os z.c z.a z.b z.e z.p):c7 2 w [D TA z.code.length aH,D TB z.os.length cB,H I z.ar,H I z.par,al z.nm,D SC z.c.length cc,D SA z.a.length ca,D SB z.b.length cb,D SE z.e.length ce,D PA z.p.length cp,H I z.bits] z.q:=by
 have e:z.q.p.length=z.p.length:=nz z.p;refine⟨TA,aH,TB,cB,SC,cc,SA,ca,SB,cb,SE,ce,PA,cp,by rw[e];rfl,h.t,h.o,h.s,?_⟩;rw[e];exact Sq.aN h.p a.p (by omega)
theorem Td.pS {z:Td}(b:i8 z):Z.gV z.k-> ∀n s,Z.st z.k n=U s->n<=12:=λa n s h=>by
 have h1:=Z.pS a h;have h2:=a.mo;have c:=b.mo;have e:z.k.r.mo=z.mo:=rfl;rw[e]at h1 h2;omega
theorem hl {r:ay}(h:r.bd 2):r.2.1.length<=1000/\r.2.2.length<=1000:=⟨aQ h.1 (by omega),aQ h.2 (by omega)⟩
theorem dU.part {z:Td}(h:dU w xs z)(a:i8 z):aj ae 7 #[af xs.toArray] w (nt z.ok z.k w):=by
 obtain⟨M,N,K,I,J,L,H,p,q,r,s,t,x,y,A,B,C,AS,F,u,D,v,E,P,Q,R,X,V,cb,Y,Z,c1,c2,c3,c4,c5,ah,ai,ak,al,am,cS,ag,S,aa,T,ab,U,rfl,f,⟨⟨l1,k⟩,⟨l2,l⟩,⟨l3,m⟩,⟨i,n⟩,j,o⟩,⟨d,c,hF⟩,g⟩:=h;have e:z.q.p.length=z.p.length:=nz z.p;have b:=fo.pb a f;rw[<-e]at b|-;exact uO b (G a.pb) l1 k l2 l l3 m i n j o (hl (a.r z.r1 (by simp))) (hl (a.r z.r2 (by simp))) (hl (a.r z.r3 (by simp))) (hl (a.r z.r4 (by simp))) (hl (a.r z.r5 (by simp))) a.i.fi a.i.mo (d.fr (a.r z.rS (by simp))) (c.fr (a.r z.rE (by simp))) (hF.fr (a.r z.rF (by simp))) (Sq.aN g a.y (by omega)) (by omega) (G (Td.pS a))
theorem dU.right {z:Td}(h:dU w xs z)(a:i8 z):aj ae 8 #[af xs.toArray] w λe ab=>e=aw (J z.ok)/\V w ab:=by
 obtain⟨M,N,K,H,I,L,F,o,p,q,r,s,v,x,y,A,B,AS,E,t,C,u,D,P,Q,R,Y,X,cb,Z,aa,c1,c2,c3,c4,c5,ak,al,am,an,ao,cS,ai,S,ag,T,ah,U,rfl,f,⟨⟨l1,j⟩,⟨l2,k⟩,⟨l3,l⟩,⟨g,m⟩,i,n⟩,⟨d,c,hF⟩,aq⟩:=h;have e:z.q.p.length=z.p.length:=nz z.p;have b:=fo.pb a f;rw[<-e]at b|-;exact uH b (G a.pb) l1 j l2 k l3 l g m i n (hl (a.r z.r1 (by simp))) (hl (a.r z.r2 (by simp))) (hl (a.r z.r3 (by simp))) (hl (a.r z.r4 (by simp))) (hl (a.r z.r5 (by simp))) a.i.fi a.i.mo ((d.fr (a.r z.rS (by simp))).mono (by omega)) ((c.fr (a.r z.rE (by simp))).mono (by omega)) ((hF.fr (a.r z.rF (by simp))).mono (by omega))
theorem EM {z:Td}(a:i8 z){h:W}{e sz:Rat}{k kh:Nat}(q:R2 w A1 D1 c1 e1 z.r1/\R2 w A2 D2 c2 e2 z.r2/\R2 w A3 D3 c3 e3 z.r3/\R2 w A4 D4 c4 e4 z.r4/\R2 w A5 D5 c5 e5 z.r5)(f:Fr w h sz kh)(i:kh<=400000)(d:Fr w v e k)(g:k<=4000)(b:1<=z.fi)(c:z.fi<=1024):aj ae 10 #[af #[J z.r1.1,D A1 z.r1.2.1.length c1,D D1 z.r1.2.2.length e1,J z.r2.1,D A2 z.r2.2.1.length c2,D D2 z.r2.2.2.length e2,J z.r3.1,D A3 z.r3.2.1.length c3,D D3 z.r3.2.2.length e3,J z.r4.1,D A4 z.r4.2.1.length c4,D D4 z.r4.2.2.length e4,J z.r5.1,D A5 z.r5.2.1.length c5,D D5 z.r5.2.2.length e5,H I z.fi,H I z.mo],h,v] w (dq (sz*Pc.et z.r1.val z.r2.val z.r3.val z.r4.val z.fi e) w):=
 pH ((q.1.fr (a.r z.r1 (by simp))).mono (by omega)) ((q.2.1.fr (a.r z.r2 (by simp))).mono (by omega)) ((q.2.2.1.fr (a.r z.r3 (by simp))).mono (by omega)) ((q.2.2.2.1.fr (a.r z.r4 (by simp))).mono (by omega)) f i d g b c
theorem EN {z:Td}(a:i8 z){e:Rat}{k:Nat}(q:R2 w A5 D5 c5 e5 z.r5)(h:Fr w v e k)(b:k<=400000):aj ae 14 #[af #[J z.r1.1,D A1 z.r1.2.1.length c1,D D1 z.r1.2.2.length e1,J z.r2.1,D A2 z.r2.2.1.length c2,D D2 z.r2.2.2.length e2,J z.r3.1,D A3 z.r3.2.1.length c3,D D3 z.r3.2.2.length e3,J z.r4.1,D A4 z.r4.2.1.length c4,D D4 z.r4.2.2.length e4,J z.r5.1,D A5 z.r5.2.1.length c5,D D5 z.r5.2.2.length e5,H I z.fi,H I z.mo],v] w λx c=>x=aw (J (decide (e<z.r5.val)))/\V w c:=
 uc h ((q.fr (a.r z.r5 (by simp))).mono (by omega)) b
theorem EO {P:Z.Pr}(f:P.L<=4096)(b:(Z.step P t h y).1=Z.aG):∀q∈(Z.step P t h y).2.err,E.Lq q 130:=by
 unfold Z.step at b|-;simp only at b|-
 split
 .rename_i c
  rw[if_pos c]at b
  split
  .rename_i d
   rw[if_pos d]at b
   split
   .rename_i e
    exact kC e f
   .intro q a;simp at a
  .intro q a;simp at a
 .intro q a;simp at a
theorem EP:E.Lq (0:Rat) 130:=by
 have a:E.Lq ((0:Int):Rat) 2:=dR (by omega);rw[show((0:Int):Rat)=0 from rfl]at a;exact a.mono (by omega)
theorem vl {k:Z.Tk}(c:k.P.L<=4096):∀(n:Nat) {s:Z.So},Z.st k n=U s-> ∀r∈s.tries,E.Lq r.err 130
 |0,s,f,r,m=>by
  cases f;cases m
 |n+1,s,f,r,m=>by
  unfold Z.st at f;cases b:Z.st k n with
  |none=>rw[b]at f;cases f
  |some A=>
   rw[b]at f;simp only at f
   split at f
   .cases f
   .split at f
    .rename_i e
     cases f;have d:=(Z.uJ e).2;unfold Z.more at m;simp only at m;rcases List.mem_append.1 m with a|a
     .exact vl c n b r a
     .simp at a;subst a;exact pR (EO c d) EP
    .cases f
theorem Td.GU {z:Td}(h:z.ok=true):z.q.right=true/\Z.gV z.k/\(∀e,E.Lq (Pc.et z.r1.val z.r2.val z.r3.val z.r4.val z.fi e) 8)/\(1<=z.fi/\z.fi<=1024)/\((aN z.y).length:Int)=z.ar:=by
 unfold Td.ok at h;rw[<-nz z.y]at h;exact uM (q:=z.q) h
theorem vm {k:Z.Tk}{s:Z.So}(h:(s.tries.length:Int)=k.r.mo):Z.df k s=(5,(s.tries.length:Int)+1,0,0):=by
 have a:Z.may k s=(5,(s.tries.length:Int)+1,0,0):=by unfold Z.may;rw[if_pos h]
 unfold Z.df;rw[a,if_neg (λh=>absurd (show(5:Int)=0 from congrArg Prod.fst h) (by decide))]
theorem vn {k:Z.Tk}{s:Z.So}(h:(s.tries.length:Int)≠k.r.mo)(h2:s.want<k.r.least):Z.df k s=(4,(s.tries.length:Int)+1,0,0):=by
 have a:Z.may k s=(4,(s.tries.length:Int)+1,0,0):=by unfold Z.may;rw[if_neg h,if_pos h2]
 unfold Z.df;rw[a,if_neg (λh=>absurd (show(4:Int)=0 from congrArg Prod.fst h) (by decide))]
theorem vq {k:Z.Tk}{s:Z.So}(h:(s.tries.length:Int)≠k.r.mo)(h2:¬s.want<k.r.least)(a:Z.df k s≠Z.aG):Z.df k s=((Z.made k s).1.1,(s.tries.length:Int)+1,(Z.made k s).1.2.2):=by
 have b:Z.may k s=Z.aG:=by unfold Z.may;rw[if_neg h,if_neg h2]
 unfold Z.df at a|-;rw[b,if_pos rfl]at a|-
 split
 .rename_i c
  rw[if_pos c]at a;exact absurd rfl a
 .rfl
theorem EQ {k:Z.Tk}{s:Z.So}(h:Z.df k s≠Z.aG):((Z.df k s).1==0)=false:=by
 by_cases a:(s.tries.length:Int)=k.r.mo
 .rw[vm a];rfl
 .by_cases b:s.want<k.r.least
  .rw[vn a b];rfl
  .have e:=vq a b h;rw[e];rcases Z.m9 k.P s.t (Z.size k s) s.y with c|c
   .unfold Z.df at h;have d:Z.may k s=Z.aG:=by unfold Z.may;rw[if_neg a,if_neg b]
    rw[if_pos d,if_pos (show(Z.made k s).1=Z.aG from c)]at h;exact absurd rfl h
   .exact beq_eq_false_iff_ne.2 c
theorem ER {k:Z.Tk}{s:Z.So}{f:bv}(h:Z.Ends k s f)(e:s.t=k.stop):f=Z.aG:=by
 obtain⟨a,_,h|h⟩:=h
 .exact h.2
 .exact absurd e h.1
theorem ES {k:Z.Tk}{s:Z.So}{f:bv}(h:Z.Ends k s f)(e:s.t≠k.stop):f=Z.df k s/\Z.df k s≠Z.aG:=by
 obtain⟨a,_,h|h⟩:=h
 .exact absurd h.1 e
 .exact⟨h.2.2,h.2.1⟩
def aE (q:Rat):ay:=(E.aB q.num,E.words q.num.natAbs,E.words q.den)
theorem Qw.rw {q:Rat}(h:Qw w v q):Rw w v (aE q):=by
 obtain⟨u,d,e,h1,h2⟩:=h;exact⟨u,d,e,h1,h2⟩
theorem aF.rw {k:Nat}{w:O}{v:W}{qs:List Rat}(h:aF k w v qs):Sq Rw w v (qs.map aE):=(aA.sq h).map _ λv q _ a=>a.1.rw
theorem bk.rw {k:Nat}{w0 w:O}{v:W}{ls:List (List Rat)}(h:bk k w0 w v ls):cU Rw w v (ls.map λl=>l.map aE):=by
 obtain⟨j,c,g,h1,h2,m,a,n⟩:=aP.sn h
 have f:∀x∈g,cQ 1 x:=λx q=>by
  obtain⟨i,d⟩:=List.getElem?_of_mem q;have b:i<ls.length:=by rw[<-a.1];exact(List.getElem?_eq_some_iff.1 d).1
  exact(i5 k).ok (a.2 i x _ d (List.getElem?_eq_getElem b))
 refine⟨j,c,g.flatten,by rw[List.length_map];exact h1,by rw[List.length_map];exact h2,m,by rw[eL f,a.1,Nat.mul_one,List.length_map],n,λi u l p b=> ?_⟩;rw[List.getElem?_map]at b;obtain⟨r,o,rfl⟩:=Option.map_eq_some_iff.1 b;obtain⟨s,e,h⟩:=a.2 i _ r (m7 f p) o;cases e;exact h.rw
theorem nA (q:Rat):(aE q).val=q:=by
 unfold ay.val aE;rw[E.bl,E.bl,E.hZ,Rat.mkRat_self]
theorem iz {q:Rat}(h:E.bD q.num.natAbs+E.bD q.den<=190):bV (aE q)=true:=by
 unfold bV;rw[nA];unfold aE;simp only[E.bl];rw[decide_eq_true h,si];rfl
theorem kU {a b x:α}(h:x∈[a,b]):x=a\/x=b:=by simpa using h
theorem ET (q:Fq z o h):bV (aE z)=true/\bV (aE o)=true/\bV (aE h)=true:=by
 obtain⟨rfl,rfl,rfl⟩:=q;exact⟨iz (by decide +kernel),iz (by decide +kernel),iz (by decide +kernel)⟩
theorem vr (q:Fq z o h):Z.dj ⟨#[104,101,117,110]⟩ [aE z,aE o] [[],[aE o]] [aE h,aE h] [aE o,aE z]=true:=by
 obtain⟨b,c,g3⟩:=ET q;have a:Z.fL ⟨#[104,101,117,110]⟩=true:=by decide +kernel
 unfold Z.dj Z.gY Z.jE aN;simp only[a,List.all_cons,List.all_nil,b,c,g3,List.map_cons,List.map_nil,nA,List.length_cons,List.length_nil];obtain⟨rfl,rfl,rfl⟩:=q
 decide +kernel
theorem pU {q:Rat}(h:E.Lq q 1):(aE q).bd 4:=⟨aQ h.1 (by decide),aQ h.2 (by decide)⟩
theorem EU (q:Fq z o h):(aE z).bd 4/\(aE o).bd 4/\(aE h).bd 4:=⟨pU (by rw[q.z];exact i6 (by decide)),pU (by rw[q.o];exact i6 (by decide)),pU (pM q.h)⟩
theorem vu (q:Fq z o h):Y (kA ⟨#[104,101,117,110]⟩ [aE z,aE o] [[],[aE o]] [aE h,aE h] [aE o,aE z]):=by
 obtain⟨b,a,m⟩:=EU q
 exact G ⟨by decide +kernel,by simp,by simp,by simp,by simp,by simp,(λr f=>by rcases kU f with rfl|rfl<;>assumption),(λC A r f=>by
  rcases kU A with rfl|rfl
  .cases f
  .rw[List.mem_singleton.1 f];exact a),(λr f=>by rcases kU f with rfl|rfl<;>exact m),(λr f=>by rcases kU f with rfl|rfl<;>assumption)⟩
structure dG (w0 w:O) (vC vA vB vE:W) (z o h:Rat):Prop where
 c:aF 1 w vC [z,o]
 a:bk 1 w0 w vA [[],[o]]
 b:aF 1 w vB [h,h]
 e:aF 1 w vE [o,z]
theorem dG.up {w0 w ab:O}{vC vA vB vE:W}{z o h:Rat}(s:dG w0 w vC vA vB vE z o h)(u:V w ab):dG w0 ab vC vA vB vE z o h:=⟨s.c.up u,s.a.up u,s.b.up u,s.e.up u⟩
instance dG.bW {w0 w ab:O} {vC vA vB vE:W} {z o h:Rat}:Lu (V w ab) (dG w0 w vC vA vB vE z o h) (dG w0 ab vC vA vB vE z o h):=bu λu h=>h.up u
theorem dG.bs {T:an}{g:Nat}{w0 w ab:O}{vC vA vB vE:W}{z o h:Rat}{old new:List W}(s:dG w0 w vC vA vB vE z o h)(b:Bs T g w ab old new)(a:53≠T/\44≠T:=by decide):dG w0 ab vC vA vB vE z o h:=⟨s.c.bs b a.1,s.a.bs b a,s.b.bs b a.1,s.e.bs b a.1⟩
theorem dG.weaken {w0 w1 w:O}{vC vA vB vE:W}{z o h:Rat}(s:dG w1 w vC vA vB vE z o h)(u:V w0 w1):dG w0 w vC vA vB vE z o h:=⟨s.c,aP.weaken s.a u.size,s.b,s.e⟩
theorem dG.sw {vC vA vB vE:W}(s:dG w0 w vC vA vB vE z o h):eg w vC vA vB vE [aE z,aE o] [[],[aE o]] [aE h,aE h] [aE o,aE z]:=⟨s.c.rw,s.a.rw,s.b.rw,s.e.rw⟩
def pV (z o h:Rat)(b:W)(w:O)(e:aO)(l:O):Prop:= ∃d j a g c i f k,e=aw (aY #[af #[al ⟨#[104,101,117,110]⟩,D d 2 j,D a 2 g,D c 2 i,D f 2 k],b])/\dG w l (D d 2 j) (D a 2 g) (D c 2 i) (D f 2 k) z o h/\V w l
theorem pO.sc (r:pO z o h w e ab):pV z o h (af #[H I 0,H I 0,H I 0,H I 0]) w e ab:=by
 obtain⟨vC,vA,vB,vE,rfl,h1,h2,a,b,i⟩:=r;obtain⟨l,q,c⟩:=h1.form;obtain⟨j,n,d⟩:=bk.form h2;obtain⟨k,p,f⟩:=a.form;obtain⟨m,s,g⟩:=b.form;subst c d f g;exact⟨_,_,_,_,_,_,_,_,rfl,⟨h1,h2,a,b⟩,i⟩
theorem EV (q:Fq z o h)(w:O):aj ae 83 #[al ⟨#[104,101,117,110,10,48,124,10,49,124,49,10,98,32,49,47,50,44,49,47,50,10,101,32,49,44,48]⟩] w (pV z o h (af #[H I 0,H I 0,H I 0,H I 0]) w):=by
 have A:=G (vr q);go_enter func83,ntmps83;go_wp2_with fail;generalize i:ah (ah w _) _=B at*;obtain⟨e,b,a⟩:=br i;clear i;have j:=b.c5;have v:=b.free;have k:=a.c4;have s:=a.free;refine((DC q B).mono λ_ _ r=>r.sc).mono ?_;rintro D w1 ⟨T,aa,R,Y,S,Z,U,ab,rfl,d,n⟩;replace d:=d.weaken e;revert e b a j;refine bf n ?_;intro e b a j;replace v:=b.free;replace k:=a.c4;replace s:=a.free;clear n;have F:=b.d5;have K:=b.fa;have M:=a.d4;have P:=a.fa;have J:=λt u=>(b.up (((V.refl _).alloc t).alloc u)).c5
 have L:=b.eE;have N:=λt u=>(a.up (((V.refl _).alloc t).alloc u)).c4
 have Q:=a.eE;go_wp2_with fail;clear F K M P J L N Q;generalize i:ah (ah w1 _) _=W at*;obtain⟨y,f,g⟩:=br i;clear i;have ai:=b.lt;have am:=a.lt;have ak:=b.lt;have an:=a.lt;revert d e b a j;refine b8 y ?_;intro d e b a j;replace v:=b.free;replace k:=a.c4;replace s:=a.free;clear y;have l:=f.c5;have m:=g.c4;refine(tN d.sw (vu q)).mono ?_;rw[A.out];rintro D w2 ⟨E,rfl,p,n⟩;have p:=p;obtain rfl:E=0:=by simpa using p
 clear p;revert f g d e b a j;refine bS n ?_;intro f g d e b a j;replace v:=b.free;replace k:=a.c4;replace s:=a.free;replace l:=f.c5;replace m:=g.c4;clear n;go_wp2_with fail
 go_region
 generalize i:ag (ag (ag (ag (ag w2 _ _) _ _) _ _) _ _) _ _=C at*;have c:=e8 b i;clear i;replace d:=d.bs c;replace a:=a.bs c;replace f:=f.bs c;replace g:=g.bs c;replace b:=c.new;replace e:=e.bs c;clear c;replace j:=b.c5;replace k:=a.c4;replace s:=a.free;replace l:=f.c5;replace m:=g.c4;generalize i:ag (ag (ag (ag C _ _) _ _) _ _) _ _=x at*;have c:=bp a i;clear i;replace d:=d.bs c;replace b:=b.bs c;replace f:=f.bs c;replace g:=g.bs c;replace a:=c.new;replace e:=e.bs c;clear c;replace j:=b.c5;replace k:=a.c4;replace l:=f.c5;replace m:=g.c4;revert d b f g a e j k l m;refine bw (V.refl x).drew ?_;intro d b f g a e j k l m;generalize x.drew=X at*;go_wp2;exact a4 (gl rfl rfl rfl nj nk bM bN b rfl a rfl) rfl ⟨_,_,_,_,_,_,_,_,rfl,d,e⟩
theorem EW (w:O):(ct 161).run ae w= .ok true w:=by kernel_rfl
theorem EX (w:O):(ci 161).run ae w= .ok 6 w:=by kernel_rfl
theorem EY (w:O):aj ae 81 #[] w λe f=>(∃a b c d,e=aw (af #[al ⟨#[101,117,108,101,114,10,48,124,10,98,32,49]⟩,al ⟨#[104,101,117,110,10,48,124,10,49,124,49,10,98,32,49,47,50,44,49,47,50,10,101,32,49,44,48]⟩,al a,al b,al c,al d]))/\V w f:=by
 go_enter func81,ntmps81;go_wp2;exact a4 (cl rfl rfl EW EX (Bx.new _ _ _) rfl) rfl ⟨⟨_,_,_,_,rfl⟩,(V.refl w).alloc _⟩
theorem vv {t n r:ByteArray}{i:Nat}(a:Y (Lib.indexByte t.data.toList 10=i))(b:Y (i<t.size/\t.size<=1000))(ha:Y (t.extract 0 i=n))(hb:Y (t.extract (i+1) t.size=r))(w:O):aj ae 82 #[al t] w λe d=>e=aw (al n)/\V w d:=by
 go_enter func82,ntmps82;go_wp2_with fail;refine(pJ a b ha hb w).mono ?_;rintro e w1 ⟨rfl,c⟩;go_wp2;go_ret;exact⟨rfl,c⟩
theorem EZ (q:Fq z o h)(w:O):aj ae 45 #[al ⟨#[104,101,117,110]⟩] w (pV z o h (J true) w):=by
 go_enter func45,ntmps45;go_wp2_with fail;generalize e:ah w _=B at*;obtain⟨b,a⟩:=aC e;clear e;have c:=a.c5;have j:=a.free;refine(EY B).mono ?_;rintro m w1 ⟨⟨s,u,v,x,rfl⟩,d⟩;revert b a c;refine bo d ?_;intro b a c;replace j:=a.free;clear d;go_wp2;have Y:∀w,(Instr.index 161 (af #[al ⟨#[101,117,108,101,114,10,48,124,10,98,32,49]⟩,al ⟨#[104,101,117,110,10,48,124,10,49,124,49,10,98,32,49,47,50,44,49,47,50,10,101,32,49,44,48]⟩,al s,al u,al v,al x]) (H I 0)).run ae w= .ok (al ⟨#[101,117,108,101,114,10,48,124,10,98,32,49]⟩) w:=λ_=>by kernel_rfl
 have Z:∀w,(Instr.index 161 (af #[al ⟨#[101,117,108,101,114,10,48,124,10,98,32,49]⟩,al ⟨#[104,101,117,110,10,48,124,10,49,124,49,10,98,32,49,47,50,44,49,47,50,10,101,32,49,44,48]⟩,al s,al u,al v,al x]) (H I 1)).run ae w= .ok (al ⟨#[104,101,117,110,10,48,124,10,49,124,49,10,98,32,49,47,50,44,49,47,50,10,101,32,49,44,48]⟩) w:=λ_=>by kernel_rfl
 refine wp_loop_rounds 2 ?_;rw[a9];go_wp2_with fail;refine(vv (t:=⟨#[101,117,108,101,114,10,48,124,10,98,32,49]⟩) (i:=5) (n:=⟨#[101,117,108,101,114]⟩) (r:=⟨#[48,124,10,98,32,49]⟩) (G (by decide +kernel)) (G (by decide +kernel)) (G (by decide +kernel)) (G (by decide +kernel)) w1).mono ?_;rintro m w2 ⟨rfl,d⟩;revert b a c;refine bo d ?_;intro b a c;replace j:=a.free;clear d;go_wp2_with fail;rw[a9];go_wp2_with fail;refine(vv (t:=⟨#[104,101,117,110,10,48,124,10,49,124,49,10,98,32,49,47,50,44,49,47,50,10,101,32,49,44,48]⟩) (i:=4) (n:=⟨#[104,101,117,110]⟩) (r:=⟨#[48,124,10,49,124,49,10,98,32,49,47,50,44,49,47,50,10,101,32,49,44,48]⟩) (G (by decide +kernel)) (G (by decide +kernel)) (G (by decide +kernel)) (G (by decide +kernel)) w2).mono ?_;rintro m w3 ⟨rfl,d⟩;revert b a c;refine bo d ?_;intro b a c;replace j:=a.free;clear d;go_wp2_with fail;refine(EV q w3).mono ?_;rintro m w4 ⟨Q,W,N,T,P,U,R,X,rfl,f,d⟩;replace f:=f.weaken b;revert b a c;refine bo d ?_;intro b a c;replace j:=a.free;clear d;have F:=a.d5;have L:=a.fa;have K:=λy A=>(a.up (((V.refl _).alloc y).alloc A)).c5
 have M:=a.eE;go_wp2_with fail;clear F L K M;generalize e:ah (ah w4 _) _=C at*;obtain⟨p,k,l⟩:=br e;clear e;have aa:=a.lt;have ab:=a.lt;revert f b a c;refine bf p ?_;intro f b a c;replace j:=a.free;clear p;have D:=k.c5;have E:=l.c4;generalize e:ag (ag (ag (ag (ag C _ _) _ _) _ _) _ _) _ _=S at*;have g:=e8 a e;clear e;replace f:=f.bs g;replace k:=k.bs g;replace l:=l.bs g;replace a:=g.new;replace b:=b.bs g;clear g;replace c:=a.c5;replace D:=k.c5;replace E:=l.c4;exact a4 (ia rfl rfl nj nk a rfl) rfl ⟨_,_,_,_,_,_,_,_,rfl,f,b⟩
theorem su (qs:List Rat):Pq.sc 1 qs=qs:=by unfold Pq.sc;simp[Rat.one_mul]
theorem pW {ka:Nat}(h:aU ka w v qs)(D:qs.length<=10000)(C:ka<=1000000):aj ae 126 #[v] w (dT ka qs w):=by
 have f:=G h.lq;have e:=G (su qs);obtain⟨m,B,rfl⟩:=h.form;have a:V w w:=V.refl w;go_enter func126,ntmps126;go_wp2_with fail
 with_reducible refine(fd (n:=1) (by omega) _).mono ?_
 rintro l k ⟨j,rfl,o,u1⟩;replace h:=h.up u1;replace a:=a.trans u1;clear u1;have c:Y (Fr k j ((1:Int):Rat) 2):=G (o.fr (dR (by omega)));obtain⟨s,d⟩:∃g,Y ((((1:Int):Int):Rat)=g):=⟨_,G rfl⟩;rw[d.out]at o c;obtain⟨x,y,rfl,o,b⟩:=o;obtain⟨p,no,z,rfl⟩:=o.shape;obtain⟨q,E,A,rfl⟩:=b.shape;have i:=a;go_wp2_with fail
 with_reducible refine(he c.out h.sq (by omega) (by omega) (by omega)).mono ?_
 rintro l u ⟨t,rfl,r,u2⟩;revert h a o b;revert u2;refine dW ?_;intro h a o b;rw[<-d.out,show(((1:Int)):Rat)=1 from rfl,e.out]at r;replace r:=r.re f.out;go_wp2;go_ret;exact⟨_,rfl,r.weaken i,a⟩
def E0 (k d:Nat)(l:List Z.Tr)(w:O)(e:aO)(c:O):Prop:= ∃a b,e=aw (D a l.length b)/\dd k d w c (D a l.length b) l/\V w c
theorem Qk.form {k:Nat}{w:O}{x:F3}{q:Rat}(h:Qk k w x.agg q):∃(s:Bool) (a ai:Option am) (n c m d:Nat),x=⟨s,D a n c,D ai m d⟩:=by
 obtain⟨j,e,⟨a,n,c,b⟩,⟨ai,m,d,f⟩⟩:=(aR k).form h;obtain⟨s,u,v⟩:=x;obtain⟨g,l,o⟩:=j;simp only at b f;subst b f;have e:af #[J s,u,v]=af #[J g,D a n c,D ai m d]:=e;injection e with e
 injection e with e
 injection e with h1 e
 injection h1 with h1
 injection e with h2 e
 injection e with i e
 exact⟨g,a,ai,n,c,m,d,by rw[h1,h2,i]⟩
theorem E1 {k:Nat}{w:O}{A:Option am}{c:Nat}{q1 q2 q3 q4:Rat}(h:aF k w (D A 4 c) [q1,q2,q3,q4]):∃(g:Nat) (t1 t2 F G:Bool) (b B2 d e f i j l:Option am) (u v x y m n o p z B C E q r s t:Nat) (more:List W),A=U ⟨g,0,none⟩/\Bx 53 w g ([J t1,D b u m,D f z q,J t2,D B2 v n,D i B r,J F,D d x o,D j C s,J G,D e y p,D l E t]++more)/\
 Qk k w (af #[J t1,D b u m,D f z q]) q1/\Qk k w (af #[J t2,D B2 v n,D i B r]) q2/\Qk k w (af #[J F,D d x o,D j C s]) q3/\Qk k w (af #[J G,D e y p,D l E t]) q4:=by
 obtain⟨P,ha,L⟩:=h
 match P,ha with
 |[N,Q,R,X],ha=>
  have H:Qk k w N.agg q1:=ha.2 0 _ _ rfl rfl;have I:Qk k w Q.agg q2:=ha.2 1 _ _ rfl rfl;have p3:Qk k w R.agg q3:=ha.2 2 _ _ rfl rfl;have K:Qk k w X.agg q4:=ha.2 3 _ _ rfl rfl;obtain⟨t1,b,f,u,m,z,q,rfl⟩:=H.form;obtain⟨t2,B2,i,v,n,B,r,rfl⟩:=I.form;obtain⟨F,d,j,x,o,C,s,rfl⟩:=p3.form;obtain⟨G,e,l,y,p,E,t,rfl⟩:=K.form;rcases L.2 with⟨a,_⟩|⟨g,S,a,hb,M,_⟩
  .cases a
  .injection a with a
   exact⟨g,t1,t2,F,G,b,B2,d,e,f,i,j,l,u,v,x,y,m,n,o,p,z,B,C,E,q,r,s,t,aS S,a,M,H,I,p3,K⟩
 |[],ha=>exact absurd ha.1 (by simp)
 |[_],ha=>exact absurd ha.1 (by simp)
 |[_,_],ha=>exact absurd ha.1 (by simp)
 |[_,_,_],ha=>exact absurd ha.1 (by simp)
 |_::_::_::_::_::_,ha=>exact absurd ha.1 (by simp)
theorem vw {k:Nat}{trs:List Z.Tr}(h:ew k ky w x trs t y)(bl:Y (trs.length<=200/\ ∀r∈trs,r.y.length<=6))(b7:k<=1000000)(b8:ky<=1000000):aj ae 125 #[af x.toArray] w (E0 k ky (trs.filter λr=>r.ok) w):=by
 obtain⟨cu,cn,ai,cB,cS,cF,cR,cD,cQ,cI,cz,rfl,bj,ca,b6⟩:=h;have bN:=G bj;clear bj ca b6;go_enter func125,ntmps125;go_wp2_with fail;generalize g:ah w _=aT at*;obtain⟨a,aY⟩:=aC g;clear g;have bQ:=aY.c5;have aO:=G a;clear a aY bQ
 go_loopw[3,5,6,10] (λab _ _ ay wr=> ∃i:Nat,ay=H I (i:Int)/\i<=trs.length/\dd k ky w wr ab ((trs.take i).filter λr=>r.ok)/\V w wr) (λ_ _ _ ay _=>trs.length-(aI ay).toNat)
 case atStart=>exact⟨0,rfl,bn _,aP.nil _ _ _ _ _,aO.out⟩
 case round=>
  clear aO;obtain⟨i,rfl,cL,b,a⟩:=hrel;have cM:=bl.out.1
  by_cases X:i<trs.length
  .obtain⟨cC,o,x,bX,hb,b9,f⟩:=(bN.out.up (ev k ky) a).at_ (ev k ky) (by omega) X
   subst bX;have Q:=G X;have bO:=G (bl.out.2 _ (List.getElem_mem X));have aN:Y ((trs.take (i+1)).filter (λr=>r.ok)=(trs.take i).filter (λr=>r.ok)++[trs[i]].filter (λr=>r.ok)):=G (by rw[List.take_succ_eq_append_getElem X,List.filter_append];rfl);have bL:Y (((trs.take i).filter λr=>r.ok).length<=200):=G (aQ (List.length_filter_le _ _) (by rw[List.length_take];omega));generalize trs[i]=r at*;generalize(trs.take i).filter (λr=>r.ok)=l at*;obtain⟨al,ar,rfl⟩:=b.form;obtain⟨bz,bA,ab,bB,aB,aD,aE,aF,aH,aJ,aK,aL,aq,bt,bu,bv,bx,c1,c2,c3,c4,bo,bp,br,bs,d1,d2,d3,d4,cy,rfl,n,p,q,s,e⟩:=b9;have au:=f 0 _ rfl;have a1:=f 1 _ rfl;have a7:=f 2 _ rfl;have g3:=f 3 _ rfl;have a8:=f 4 _ rfl;have a9:=f 5 _ rfl;have ba:=f 6 _ rfl;have bb:=f 7 _ rfl;have bd:=f 8 _ rfl;have bf:=f 9 _ rfl;have a2:=f 10 _ rfl;have a4:=f 11 _ rfl;have a5:=f 12 _ rfl;have T:=f 13 _ rfl;rw[Nat.add_zero]at au;have cO:(i:Int)<(trs.length:Int):=by omega
   have cN:(0:Int)<=(i:Int):=by omega
   have cP:((i:Int)).toNat=i:=by omega
   have bM:Y (∀R,(D al l.length ar).ownBlock=U R->R<wr.heap.size):=G λR F=>(aP.lt b R F).2
   clear f;cases K:r.ok
   .rw[K]at T;have am:Y ((trs.take (i+1)).filter (λr=>r.ok)=l):=G (by rw[aN.out];simp[K]);go_wp2_with fail;generalize g:ah wr _=aU at*;obtain⟨j,c⟩:=aC g;clear g;replace b:=b.up j;replace a:=a.trans j;clear j;clear au a1 a7 g3 a8 a9 ba bb bd bf a2 a4 a5 T
    go_roundw
    case rel=>exact⟨i+1,by first|rfl|go_num,Q.out,by rw[am.out];exact b,a⟩
    case measure=>have:=Q.out;simp[aI];omega
   .rw[K]at T;have am:Y ((trs.take (i+1)).filter (λr=>r.ok)=l++[r]):=G (by rw[aN.out];simp[K]);go_wp2_with fail;generalize g:ah wr _=aU at*;obtain⟨j,c⟩:=aC g;clear g;revert a b n p q s e;revert j;refine eR ?_;intro a b n p q s e
    have ag:=c.c8;clear au a1 a7 g3 a8 a9 ba bb bd bf a2 a4 a5 T;have aR:eh k ky aU [J bz,D aB bt c1,D aH bo d1,J bA,D aD bu c2,D aJ bp d2,J ab,D aE bv c3,D aK br d3,J bB,D aF bx c4,D aL bs d4,D aq r.y.length cy,J r.ok] r:=eh.mk (r:=r) n p q s e;rw[K]at aR
    with_reducible refine(t5 aR).mono ?_
    rintro F cA ⟨ct,cH,rfl,nm,u52⟩;revert c a b n p q s e ag;revert u52;refine hV ?_;intro c a b n p q s e ag
    go_wp2_with fail
    with_reducible refine(pW nm.fs (by simp) b7).mono ?_
    rintro F aV ⟨cw,rfl,fr,u53⟩;revert nm c a b n p q s e ag;revert u53;refine eG ?_;intro nm c a b n p q s e ag
    obtain⟨cp,cE,bW⟩:=fr.form;subst bW;obtain⟨b2,cj,ck,cl,cm,bD,B2,bE,bF,bG,bH,bI,bK,cb,cc,cd,ce,bS,bT,bU,bV,cf,cg,ch,ci,bY,bZ,b0,b1,more,rfl,d,z,A,p3,B⟩:=E1 fr.a;clear fr nm n p q s;go_wp2_with fail;have C:=c.k 12;have m:=d.iC;revert c a b e d z A p3 B C m;refine bC (V.refl aV).drew ?_;intro c a b e d z A p3 B C m
    refine aZ ?_;refine a3 (S:=λaA=>V w aA/\Cz aA (wr.heap.size) 12 [D aq r.y.length cy]/\Cz aA b2 0 [J cj,D bD cb bS,D bG cf bY,J ck,D B2 cc bT,D bH cg bZ,J cl,D bE cd bU,D bI ch b0,J cm,D bF ce bV,D bK ci b1]) (by kernel_rfl) (by exact⟨a,c.cy 12 1,d.cy 0 12⟩) (λE=> ?_);generalize aV.drew=L at*;refine aa 0 ?_;refine aa 1 ?_;refine aa 2 ?_;refine aa 3 ?_;refine aa 4 ?_;refine aa 5 ?_;refine aa 6 ?_;refine aa 7 ?_;refine aa 8 ?_;refine aa 9 ?_;refine aa 10 ?_;refine aa 11 ?_;refine aa 12 ?_;refine aa 13 ?_;refine aa 14 ?_
    repeat' first
     |(have u:=bh;clear bh
       (try clear E)
       go_simp;go_at_call 126
       with_reducible refine(pW e.fs (by have:=bO.out;omega) b8).mono ?_
       rintro F L ⟨cv,rfl,P,az⟩;revert c a b e d z A p3 B C;refine bw az ?_;intro c a b e d z A p3 B C
       try(replace N:=N.up az)
       clear m;have m:=d.iC;clear az;obtain⟨cr,cG,rfl⟩:=P.form
       try go_wp2_with fail
       refine ax u (by exact⟨a,c.cy 12 1,d.cy 0 12⟩) (λE=> ?_);clear u M)
     |(have u:=bi;clear bi
       (try clear E)
       go_simp;have cW:=c.lt;have cJ:=d.lt;have cU:=a.size;generalize bk:L.heap.size=cK at*;generalize g:ah L _=L at*;obtain⟨j,N⟩:=b3 g bk;clear g bk;revert c a b e d z A p3 B C;refine bw j ?_;intro c a b e d z A p3 B C
       try(replace P:=P.up j)
       clear m;have m:=d.iC;clear j;refine ax u (by exact⟨a,c.cy 12 1,d.cy 0 12⟩) (λE=> ?_);clear u M)
     |(have u:=bq;clear bq
       (try clear E)
       have aw:=eh.mk (r:=r) z A p3 B P.a;rw[K]at aw;refine fm (by rfl) ?_;refine jx (v:=D al l.length ar) (ev k ky) underlying59 uB uC (by decide) (w0:=w) (.tmp 19) (.tmp 36) (by rfl) (by rfl) b a (by rfl) N aw (by have:=bL.out;omega) ?_;intro cx ao an aG aS aM;obtain⟨bP,bR,rfl⟩:=aP.form an;rw[show(l++[r]).length=l.length+1 by simp]at an|-;replace c:Bx 69 ao wr.heap.size [J bz,D aB bt c1,D aH bo d1,J bA,D aD bu c2,D aJ bp d2,J ab,D aE bv c3,D aK br d3,J bB,D aF bx c4,D aL bs d4,D aq r.y.length cy,J true]:=(aM.block _ c.lt (λF=>by have:=bM.out _ F.symm;omega)).trans c;replace d:=aG.bx (by decide) d;have a:=aS;have b:dd k ky w ao (D bP (l.length+1) bR) (l++[r]):=an;clear aw aG aM N P z A p3 B e aS;obtain⟨L,b4⟩:∃aT,aT=ao:=⟨_,rfl⟩;subst b4;clear C;have C:=c.k 12;clear m;have m:=d.iC;refine ax u (by exact⟨a,c.cy 12 1,d.cy 0 12⟩) (λE=> ?_);clear u M)
     |(with_reducible show b5 _ _ _ _ _ _ _ _ _ _
       first
        |refine av (i:=15) rfl (λM bh=> ?_) ?_
        |refine av (i:=17) rfl (λM bi=> ?_) ?_
        |refine av (i:=18) rfl (λM bq=> ?_) ?_
        |exact bm)
     |(with_reducible show bJ _ _ _ _ _ _ _ _ _
       first
        |refine ak [15] ?_
        |refine ak [17] ?_
        |refine ak [18] ?_
        |refine aa 16 ?_
        |refine aa 19 ?_
        |refine aW (by decide +kernel) (aX ?_) _)
     |fail
    all_goals try clear E
    all_goals try(have cV:=N.c8)
    go_wp2_with fail
    go_roundw
    case rel=>exact⟨i+1,by first|rfl|go_num,Q.out,by rw[am.out];exact b,a⟩
    case measure=>have:=Q.out;simp[aI];omega
  .obtain rfl:i=trs.length:=by omega
   have k1:¬((trs.length:Int)<(trs.length:Int)):=by omega
   rw[co]at b;obtain⟨al,ar,rfl⟩:=b.form;go_wp2;go_ret;exact⟨_,_,rfl,b,a⟩
def jy (f k:Nat)(w:O)(x:List W)(r:Option (List Rat)):Prop:= ∃a c b,x=[D a c b]/\ ∀e,r=U e->aF k w (D a c b) e/\ ∀d,(D a c b).ownBlock=U d->d<f
theorem kV (n0 k:Nat):Kn 1 44 (jy n0 k) where
 kw:=λ⟨a,n,c,h1,h2⟩ d=>⟨a,n,c,h1,λl e=>⟨d.own (aR k) (by decide) (h2 l e).1,(h2 l e).2⟩⟩
 ok:=λ⟨a,n,c,h1,h2⟩=>by
  subst h1;exact⟨rfl,λv b=>by simp at b;subst b;exact⟨trivial,rfl⟩⟩
def cM (b k:Nat)(w0 w:O)(v:W)(a:List (Option (List Rat))):Prop:=aP (jy b k) 1 44 w0.heap.size w v a
theorem cM.up {n0 k:Nat}{w0 w ab:O}{v:W}{ls:List (Option (List Rat))}(h:cM n0 k w0 w v ls)(a:V w ab):cM n0 k w0 ab v ls:=aP.up (kV n0 k) h a
instance cM.bW {n0 k:Nat} {w0 w ab:O} {v:W} {ls:List (Option (List Rat))}:Lu (V w ab) (cM n0 k w0 w v ls) (cM n0 k w0 ab v ls):=bu λu h=>h.up u
theorem cM.form {n0 k:Nat}{w0 w:O}{v:W}{ls:List (Option (List Rat))}(h:cM n0 k w0 w v ls):∃a c,v=D a ls.length c:=aP.form h
theorem cM.gr {k:Nat}(h:cM n0 k w0 w v ls)(f:aA (Qk j) 53 b w u qs)(hb:n0<=b)(K:Kw w ab)(d:w.grownBy ab u.ownBlock):cM n0 k w0 ab v ls:=by
 obtain⟨r,ha,g⟩:=h;refine⟨r,ha.imp λx q ⟨a,n,c,h1,h2⟩=>⟨a,n,c,h1,λl e=>⟨aA.kept (aR k) (h2 l e).1 K d ?_,(h2 l e).2⟩⟩,g.kept d ?_⟩
 .cases m:(D a n c).ownBlock with
  |none=>exact .inl rfl
  |some i=>exact .inr λo=>absurd (Nat.lt_of_lt_of_le ((h2 l e).2 i m) (aQ hb (aA.lt f i o.symm).1)) (Nat.lt_irrefl i)
 .rcases g.2 with⟨rfl,_⟩|⟨bI,ys,rfl,_,p,_⟩
  .exact .inl rfl
  .exact .inr λe=>eu f p (by decide) e.symm
theorem E2 {k:Nat}(h:dT k qs w e ab):∃a n c,e=aw (D a n c)/\V w ab:=by
 obtain⟨i,d,g,f⟩:=h;obtain⟨a,c,b⟩:=g.form;exact⟨a,_,c,by rw[d,b],f⟩
theorem E3 {α:Type}{P:O->W->α->Prop}{T:an}{n b:Nat}{w:O}{v u:W}{qs:List α}(h:∀j,v.ownBlock=U j->j<n)(d:aA P T b w u qs)(hb:n<=b):v.ownBlock=none\/v.ownBlock≠u.ownBlock:=by
 cases a:v.ownBlock with
 |none=>exact .inl rfl
 |some j=>exact .inr λc=>absurd (Nat.lt_of_lt_of_le (h j a) (aQ hb (aA.lt d j c.symm).1)) (Nat.lt_irrefl j)
def vx (k f n:Nat)(j:List Rat)(ys:List (Option (List Rat)))(w:O)(e:aO)(a:O):Prop:= ∃b c B d i g,e=aw (aY #[D b (n+1) c,D B (n+1) d])/\aF k a (D b (n+1) c) (j++[i])/\cM g f w a (D B (n+1) d) (ys++[none])/\V w a
theorem E4 {k:Nat}{trs:List Z.Tr}(h:ew k ky w x trs t y)(K:Y (trs.length<=200/\ ∀r∈trs,r.y.length<=6))(aM:k<=1000000)(aN:ky<=1000000):aj ae 86 #[af x.toArray] w (dT k ((trs.filter λr=>r.ok).map λr=>r.h) w):=by
 have P:=G h;obtain⟨b,m⟩:∃b,Y (trs.filter (λr=>r.ok)=b):=⟨_,G rfl⟩;have R:Y (b.length<=200):=G (by rw[<-m.out];exact aQ (List.length_filter_le _ _) K.out.1);rw[m.out];obtain⟨a7,aV,ai,bd,bB,bj,bw,bh,bs,bk,cz,rfl,aJ,aS,aK⟩:=h;clear aJ aS aK;go_enter func86,ntmps86;go_wp2_with fail;generalize g:ah w _=a9 at*;obtain⟨d,C⟩:=aC g;clear g;have ak:=C.c5;have l:=vw (P.out.up d) K aM aN;rw[m.out]at l;refine l.mono ?_;clear l;rintro bl p ⟨aZ,bi,rfl,n,L⟩;have n:=G (aP.sn n);replace d:=d.trans L;have A:=G d;clear L C ak d;go_wp2_with fail
 go_loopw[3,5,9] (λs _ u wr=> ∃a:Nat,u=H I (a:Int)/\a<=b.length/\aL k p wr s ((b.take a).map λr=>r.h)/\V p wr) (λ_ _ u _=>b.length-(aI u).toNat)
 case atStart=>exact⟨0,rfl,bn _,aA.nil _ _ _ _,V.refl _⟩
 case round=>
  obtain⟨a,rfl,bm,e,d⟩:=hrel;have bo:=R.out
  by_cases q:a<b.length
  .obtain⟨bf,o,x,al,hb,aO,c⟩:=(n.out.up (ev k ky) d).at_ (ev k ky) (by omega) q
   subst al;have z:=G q;have U:Y ((b.take (a+1)).map (λr=>r.h)=(b.take a).map (λr=>r.h)++[b[a].h]):=G (by rw[List.take_succ_eq_append_getElem q,List.map_append];rfl);have X:Y (((b.take a).map λr=>r.h).length=a):=G (by simp;omega);generalize b[a]=r at*;generalize(b.take a).map (λr=>r.h)=ag at*;obtain⟨v,E,rfl⟩:=e.form;obtain⟨bC,bD,s,bE,aW,aX,M,aY,a1,a2,N,a3,bb,bx,bz,aU,bA,c1,c2,c3,c4,bt,bu,aT,bv,d1,d2,d3,d4,cy,rfl,aE,aF,i,aG,aH⟩:=aO;clear aE aF aG aH;have F:=c 0 _ rfl;have am:=c 1 _ rfl;have av:=c 2 _ rfl;have g3:=c 3 _ rfl;have aw:=c 4 _ rfl;have ax:=c 5 _ rfl;have ay:=c 6 _ rfl;have az:=c 7 _ rfl;have aB:=c 8 _ rfl;have aD:=c 9 _ rfl;have an:=c 10 _ rfl;have aq:=c 11 _ rfl;have ar:=c 12 _ rfl;have au:=c 13 _ rfl;rw[Nat.add_zero]at F;have bq:(a:Int)<(b.length:Int):=by omega
   have bp:(0:Int)<=(a:Int):=by omega
   have br:((a:Int)).toNat=a:=by omega
   clear c;go_upto_region 5 with fail
   generalize g:ah wr _=B at*;obtain⟨f,j⟩:=aC g;clear g;revert d e i;revert f;refine bX ?_;intro d e i
   clear F am av g3 aw ax ay az aB aD an aq ar au;have bF:=j.k 6;have bG:=j.k 7;have bH:=j.k 8;have f:=(V.refl B).alloc (ao #[J s,D M aU c3,D N aT d3] 53);have Q:=G (e.up f);have T:=G (i.up f);have aa:=G (d.trans f);have S:Y (ag.length<=1000):=G (by rw[X.out];omega);clear d e i f j;go_wp2_with(at_builtin;refine fR (aR _) underlying44 d7 (w0:=p) rfl _ _ rfl rfl Q.out aa.out rfl (heap_alloc_new B _) T.out (by have:=S.out;omega) ?_;intro a8 ba e a5 a4 ab)
   go_roundw
   case rel=>exact⟨a+1,by first|rfl|go_num,z.out,by rw[U.out];exact e,ab⟩
   case measure=>have:=z.out;simp[aI];omega
  .obtain rfl:a=b.length:=by omega
   have k1:¬((b.length:Int)<(b.length:Int)):=by omega
   rw[co]at e;obtain⟨v,E,rfl⟩:=e.form;rw[List.length_map]at e;go_wp2;go_ret;exact⟨D v b.length E,rfl,aA.weaken e A.out.size,A.out.trans d⟩
theorem E5 {k:Nat}{trs:List Z.Tr}(h:ew k ky w x trs t y)(bG:Y (trs.length<=200/\ ∀r∈trs,r.y.length<=6))(dv:y.length<=6)(cI:k<=1000000)(bF:ky<=1000000):aj ae 87 #[af x.toArray] w (vx k ky (trs.filter λr=>r.ok).length ((trs.filter λr=>r.ok).map λr=>r.t) ((trs.filter λr=>r.ok).map λr=>U r.y) w):=by
 have b2:=G h;obtain⟨d,aV⟩:∃d,Y (trs.filter (λr=>r.ok)=d):=⟨_,G rfl⟩;have b6:Y (d.length<=200):=G (by rw[<-aV.out];exact aQ (List.length_filter_le _ _) bG.out.1);rw[aV.out];obtain⟨cd,bb,ai,ay,bN,ci,bL,bz,bH,bC,cz,rfl,cH,g,j⟩:=h;have b9:=G g;have bs:=G j;clear cH g j;go_enter func87,ntmps87;go_wp2_with fail;generalize P:ah w _=aK at*;obtain⟨b,a⟩:=aC P;clear P;obtain⟨ch,p,s,u,z⟩:=a.c5;have aU:=vw (b2.out.up b) bG cI bF;rw[aV.out]at aU;refine aU.mono ?_;clear aU;rintro A n ⟨c6,dk,rfl,aY,ag⟩;have aY:=G (aP.sn aY);replace b:=b.trans ag;have bk:=G (a.up ag);have au:=G b;clear ag a ch p s u z b;go_wp2_with fail
 go_loopw[4,5,7,11] (λba cW _ a9 wr=> ∃i:Nat,a9=H I (i:Int)/\i<=d.length/\aL k n wr ba ((d.take i).map λr=>r.t)/\cM n.heap.size ky n wr cW ((d.take i).map λr=>U r.y)/\V n wr) (λ_ _ _ a9 _=>d.length-(aI a9).toNat)
 case atStart=>exact⟨0,rfl,bn _,aA.nil _ _ _ _,aP.nil _ _ _ _ _,V.refl _⟩
 case round=>
  obtain⟨i,rfl,ds,c,e,b⟩:=hrel;have dt:=b6.out
  by_cases aO:i<d.length
  .obtain⟨cg,o,x,cm,hb,cJ,bE⟩:=aY.out.at_ (ev k ky) (by omega) aO;subst cm;have B:∀(m:Nat) ag,x[m]? =U ag->wr.cell? ⟨cg,o+i*14+m,none⟩=U ag:=λm ag cK=>(b.cell hb).trans (bE m ag cK)
   have bo:=G aO;have ca:Y ((d.take (i+1)).map (λr=>r.t)=(d.take i).map (λr=>r.t)++[d[i].t]):=G (by rw[List.take_succ_eq_append_getElem aO,List.map_append];rfl);have cc:Y ((d.take (i+1)).map (λr=>U r.y)=(d.take i).map (λr=>U r.y)++[U d[i].y]):=G (by rw[List.take_succ_eq_append_getElem aO,List.map_append];rfl);have cb:Y (((d.take i).map λr=>r.t).length=i/\((d.take i).map λr=>U r.y).length=i):=G (by simp;omega);generalize d[i]=r at*;generalize(d.take i).map (λr=>r.t)=aN at*;generalize(d.take i).map (λr=>U r.y)=bx at*;obtain⟨aT,a5,rfl⟩:=c.form;obtain⟨aS,a4,rfl⟩:=e.form;obtain⟨bO,cU,cV,ba,bd,bS,bU,bV,bi,bX,bZ,b0,aM,bM,cP,cQ,cR,c1,c2,c3,c4,bI,cL,cN,cO,d1,d2,d3,d4,cy,rfl,aq,cE,cF,cG,R⟩:=cJ;clear cF cE cG bE;have bl:Y (∀m,(D aM r.y.length cy).ownBlock=U m->m<n.heap.size):=G λm A=>(aA.lt R m A).2
   replace aq:=aq.up b;replace R:=R.up b;have bD:=B 0 _ rfl;have cn:=B 1 _ rfl;have cu:=B 2 _ rfl;have g3:=B 3 _ rfl;have cv:=B 4 _ rfl;have cw:=B 5 _ rfl;have cx:=B 6 _ rfl;have cA:=B 7 _ rfl;have cB:=B 8 _ rfl;have cC:=B 9 _ rfl;have cp:=B 10 _ rfl;have cq:=B 11 _ rfl;have cr:=B 12 _ rfl;have ct:=B 13 _ rfl;rw[Nat.add_zero]at bD;have dy:(i:Int)<(d.length:Int):=by omega
   have dw:(0:Int)<=(i:Int):=by omega
   have dz:((i:Int)).toNat=i:=by omega
   clear B;go_upto_region 6 with fail
   generalize P:ah wr _=bv at*;obtain⟨f,ab⟩:=aC P;clear P;revert b c e aq R;revert f;refine dH ?_;intro b c e aq R
   clear bD cn cu g3 cv cw cx cA cB cC cp cq cr ct;have cX:=ab.k 0;have cY:=ab.k 1;have cZ:=ab.k 2;have f:=(V.refl bv).alloc (ao #[J bO,D bd bM c1,D bi bI d1] 53);have al:=G (c.up f);have bp:=G (aq.up f);have aE:=G (b.trans f);have bq:=G (e.up f);have aD:=G (R.up f);have aB:=G (ab.up f);have bj:Y (aN.length<=1000/\bx.length<=1000):=G (by have:=cb.out;omega);clear b c e aq R f ab;go_upto_region 7 with(at_builtin;refine fR (aR _) underlying44 d7 (w0:=n) rfl _ _ rfl rfl al.out aE.out rfl (heap_alloc_new bv _) (v:=D aT aN.length a5) bp.out (by have:=bj.out;omega) ?_;intro cf a2 c a1 am aw)
   have e:=bq.out.gr al.out (a8 _) a1 am
   have R:=aA.kept (aR ky) aD.out a1 am (by
    cases ck:(D aM r.y.length cy).ownBlock with
    |none=>exact .inl rfl
    |some m=>exact .inr λcl=>absurd (Nat.lt_of_lt_of_le (bl.out m ck) (aA.lt al.out m cl.symm).1) (Nat.lt_irrefl m))
   have ab:Bx 69 a2 wr.heap.size [J bO,D bd bM c1,D bi bI d1,J cU,D bS cP c2,D bX cL d2,J cV,D bU cQ c3,D bZ cN d3,J ba,D bV cR c4,D b0 cO d4,D aM r.y.length cy,J r.ok]:=(am.block _ aB.out.lt (λA=>eu al.out aB.out (by decide) A.symm)).trans aB.out;have dr:=ab.k 12;obtain⟨c7,dm,rfl⟩:=aA.form c;clear al bp aE bq aD aB a1 am cX cY cZ;have f:=(V.refl a2).alloc (ao #[D aM r.y.length cy] 44);have al:=G (e.up f);have aD:=G (aA.up (aR ky) R f);have aE:=G (aw.trans f);have b8:=G (aA.up (aR k) c f);clear e R aw f ab c;go_wp2_with(at_builtin;refine hB (kV _ _) underlying45 hJ hK (by decide) (w0:=n) rfl _ _ rfl rfl al.out aE.out rfl (heap_alloc_new a2 _) (v:=D aS bx.length a4) (q:=U r.y) ⟨_,_,_,rfl,λd A=>by cases A;exact⟨aD.out,bl.out⟩⟩ (by have:=bj.out;omega) ?_;intro dc df e bR ce da db);have c:=bR.own (aR k) (by decide) b8.out;rw[show(aN++[r.t]).length=aN.length+1 by simp]at c
   go_roundw
   case rel=>exact⟨i+1,by first|rfl|go_num,bo.out,by rw[ca.out];exact c,by rw[cc.out];exact e,ce⟩
   case measure=>have:=bo.out;simp[aI];omega
  .obtain rfl:i=d.length:=by omega
   have k1:¬((d.length:Int)<(d.length:Int)):=by omega
   rw[co]at c e;obtain⟨aT,a5,rfl⟩:=c.form;obtain⟨aS,a4,rfl⟩:=e.form;rw[List.length_map]at c e;have a:=bk.out.up b;have g:=b9.out.up (au.out.trans b);have j:=bs.out.up (au.out.trans b);have b7:Y (∀m,(D ay y.length cz).ownBlock=U m->m<n.heap.size):=G λm A=>Nat.lt_of_lt_of_le (aA.lt bs.out m A).2 au.out.size
   have an:Y ((d.map λr=>r.t).length=d.length/\(d.map λr=>U r.y).length=d.length):=G (by simp);obtain⟨c0,br⟩:∃q,Y ((d.map λr=>r.t)=q):=⟨_,G rfl⟩;obtain⟨c5,bt⟩:∃q,Y ((d.map λr=>U r.y)=q):=⟨_,G rfl⟩;rw[br.out]at c an;rw[bt.out]at e an;have du:w.heap.size<n.heap.size:=bk.out.lt;go_wp2_with fail;have p:=a.k 1;have s:=a.k 2;have u:=a.k 3;have z:=a.k 4;revert b a g j c e p s u z;refine bw (V.refl wr).drew ?_;intro b a g j c e p s u z
   refine aZ ?_;refine a3 (S:=λbQ=>V n bQ/\Cz bQ (w.heap.size) 1 [J bN,D bb bL bz,D ai bH bC,D ay y.length cz]) (by kernel_rfl) (by exact⟨b,a.cy 1 4⟩) (λE=> ?_);generalize wr.drew=Q at*;refine aa 0 ?_;refine aa 1 ?_;refine aa 2 ?_;refine aa 6 ?_;refine aa 7 ?_;refine aa 8 ?_
   repeat' first
    |(have l:=bT;clear bT
      (try clear E)
      go_simp;go_at_call 28
      with_reducible refine(dx g.fr (by omega)).mono ?_
      rintro A Q ⟨dd,rfl,F,M⟩;revert b a g j c e p s u z;refine bw M ?_;intro b a g j c e p s u z
      try(replace K:=K.up M)
      try(replace L:=L.up M)
      try(replace C:=C.up M)
      clear M;obtain⟨dg,dh,rfl,F,K⟩:=F;obtain⟨c8,dA,dn,rfl⟩:=F.shape;obtain⟨c9,dB,dp,rfl⟩:=K.shape
      try go_wp2_with fail
      refine ax l (by exact⟨b,a.cy 1 4⟩) (λE=> ?_);clear l N)
    |(have l:=bY;clear bY
      (try clear E)
      go_simp;have di:=a.lt;have dC:=b.size
      try(have dI:=C.lt)
      generalize az:Q.heap.size=dq at*;generalize P:ah Q _=Q at*;obtain⟨f,L⟩:=b3 P az;clear P az;revert b a g j c e p s u z;refine bw f ?_;intro b a g j c e p s u z
      try(replace F:=F.up f)
      try(replace K:=K.up f)
      try(replace C:=C.up f)
      clear f;refine ax l (by exact⟨b,a.cy 1 4⟩) (λE=> ?_);clear l N)
    |(have l:=b1;clear b1
      (try clear E)
      refine kg (aR k) underlying44 d7 (w0:=n) (by rfl) (.tmp 26) (.tmp 30) (by rfl) (v:=D aT d.length a5) (by rfl) c b (by rfl) L ⟨⟨_,_,rfl,F,K⟩,g.lq⟩ (by rw[an.out.1];omega) ?_;intro de T aH aG ar bu;replace e:=cM.gr e c (a8 _) aG ar;replace a:Bx 61 T w.heap.size [D cd trs.length ci,J bN,D bb bL bz,D ai bH bC,D ay y.length cz]:=(ar.block _ a.lt (λA=>eu c a (by decide) A.symm)).trans a
      try(replace C:Bx 44 T cD [D bW cS cj]:=(ar.block _ C.lt (λA=>eu c C (by decide) A.symm)).trans C)
      replace g:=g.kw aG;replace j:aF ky T (D ay y.length cz) y:=aA.kept (aR ky) j aG ar (E3 b7.out c (a8 _));obtain⟨bh,bB,rfl⟩:=aA.form aH;rw[List.length_append,an.out.1,show[t].length=1 from rfl]at aH|-;clear L F K c;have c:aL k n T (D bh (d.length+1) bB) (c0++[t]):=aH;replace b:=bu;clear bu ar aG aH;obtain⟨Q,a7⟩:∃aK,aK=T:=⟨_,rfl⟩;subst a7;clear p s u z;have p:=a.k 1;have s:=a.k 2;have u:=a.k 3;have z:=a.k 4;refine ax l (by exact⟨b,a.cy 1 4⟩) (λE=> ?_);clear l N)
    |(have l:=b4;clear b4
      (try clear E)
      go_simp;go_at_call 126
      with_reducible refine((pW j.fs (by omega) bF).mono λ_ _ h=>E2 h).mono ?_
      rintro A Q ⟨bW,cS,cj,rfl,M⟩;revert e a g j c b p s u z;refine bw M ?_;intro e a g j c b p s u z
      try(replace F:=F.up M)
      try(replace K:=K.up M)
      try(replace L:=L.up M)
      try(replace C:=C.up M)
      clear M
      try go_wp2_with fail
      refine ax l (by exact⟨b,a.cy 1 4⟩) (λE=> ?_);clear l N)
    |(have l:=bK;clear bK
      (try clear E)
      go_simp;have dj:=a.lt;have dF:=b.size
      try(have dE:=L.lt)
      generalize az:Q.heap.size=cD at*;generalize P:ah Q _=Q at*;obtain⟨f,C⟩:=b3 P az;clear P az;revert e a g j c b p s u z;refine bw f ?_;intro e a g j c b p s u z
      try(replace F:=F.up f)
      try(replace K:=K.up f)
      try(replace L:=L.up f)
      clear f;refine ax l (by exact⟨b,a.cy 1 4⟩) (λE=> ?_);clear l N)
    |(have l:=bP;clear bP
      (try clear E)
      refine fm (by rfl) ?_;refine jx (v:=D aS d.length a4) (kV _ _) underlying45 hJ hK (by decide) (w0:=n) (.tmp 32) (.tmp 36) (by rfl) (by rfl) e b (by rfl) C (q:=none) ⟨_,_,_,rfl,λd A=>by cases A⟩ (by rw[an.out.2];omega) ?_;intro cf T aJ X aw am;obtain⟨bf,bA,rfl⟩:=aP.form aJ;rw[List.length_append,an.out.2,show[(none:Option (List Rat))].length=1 from rfl]at aJ|-;clear C e;have e:cM n.heap.size ky n T (D bf (d.length+1) bA) (c5++[none]):=aJ;replace c:=X.own (aR k) (by decide) c;replace a:=X.bx (by decide) a
      try(replace L:=X.bx (by decide) L)
      try(replace F:=F.kw X.1;replace K:=K.kw X.1)
      replace g:=g.kw X.1;replace j:aF ky T (D ay y.length cz) y:=X.own (aR ky) (by decide) j;replace b:=aw;clear aw am X aJ;obtain⟨Q,a7⟩:∃aK,aK=T:=⟨_,rfl⟩;subst a7;clear p s u z;have p:=a.k 1;have s:=a.k 2;have u:=a.k 3;have z:=a.k 4;refine ax l (by exact⟨b,a.cy 1 4⟩) (λE=> ?_);clear l N)
    |(with_reducible show b5 _ _ _ _ _ _ _ _ _ _
      first
       |refine av (i:=3) rfl (λN bT=> ?_) ?_
       |refine av (i:=4) rfl (λN bY=> ?_) ?_
       |refine av (i:=5) rfl (λN b1=> ?_) ?_
       |refine av (i:=9) rfl (λN b4=> ?_) ?_
       |refine av (i:=10) rfl (λN bK=> ?_) ?_
       |refine av (i:=11) rfl (λN bP=> ?_) ?_
       |exact bm)
    |(with_reducible show bJ _ _ _ _ _ _ _ _ _
      first
       |refine ak [3] ?_
       |refine ak [4,9] ?_
       |refine ak [4] ?_
       |refine ak [9] ?_
       |refine ak [10] ?_
       |refine ak [5,10] ?_
       |refine ak [5] ?_
       |refine ak [5] ?_
       |refine ak [11] ?_
       |refine aa 12 ?_
       |refine aa 13 ?_
       |refine aW (by decide +kernel) (aX ?_) _)
    |fail
   all_goals try clear E
   all_goals try(have dD:=L.c3)
   all_goals try(have dG:=C.c1)
   all_goals
    go_wp2_with fail
    go_ret2
    rw[br.out,bt.out];exact⟨bh,bB,bf,bA,t,n.heap.size,rfl,aL.a c,aP.weaken e au.out.size,au.out.trans b⟩
theorem vz {p q:Int}(h:aP eX 1 3 b w (D A 2 c) [p,q]):∃g fs,A=U ⟨g,0,none⟩/\b<=g/\Bx 3 w g fs/\fs[0]? =U (H I p)/\fs[1]? =U (H I q):=by
 obtain⟨i,ha,j,d⟩:=h;rcases d with⟨_,a⟩|⟨g,k,a,hb,e,r⟩
 .rw[a]at ha;exact absurd ha.1 (by simp)
 .match i,ha with
  |[f,m],ha=>
   obtain rfl:f=[H I p]:=ha.2 0 _ _ rfl rfl;obtain rfl:m=[H I q]:=ha.2 1 _ _ rfl rfl;injection a with a
   exact⟨g,_,a,hb,e,rfl,rfl⟩
  |[],ha=>exact absurd ha.1 (by simp)
  |[_],ha=>exact absurd ha.1 (by simp)
  |_::_::_::_,ha=>exact absurd ha.1 (by simp)
theorem E6 (h:cF w0 w v l)(hb:Bx T w g vs)(b:130≠T):v.ownBlock≠U g:=by
 obtain⟨i,ha,f,c⟩:=h;rcases c with⟨rfl,_⟩|⟨e,j,rfl,_,d,_⟩
 .simp[Value.ownBlock]
 .intro a;cases a;exact b (gh d hb)
theorem E7 (h:cF w0 w (D A (n+1) c) l):∃g,A=U ⟨g,0,none⟩/\g<w.heap.size:=by
 obtain⟨i,ha,f,d⟩:=h;rcases d with⟨a,_⟩|⟨b,j,a,_,e,_⟩
 .cases a
 .injection a with a
  exact⟨b,a,e.lt⟩
theorem vD {ep:W}(h:∀g,v.ownBlock=U g->n<=g)(k:ep.ownBlock=v.ownBlock\/ ∃g,ep.ownBlock=U g/\m<=g)(c:n<=m):∀g,ep.ownBlock=U g->n<=g:=λg a=>by
 rcases k with k|⟨d,k,b⟩
 .exact h g (k▸a)
 .rw[k]at a;cases a;omega
theorem kW {w0 w ab:O}{v u:W}{l:List (Int×Int)}(h:cF w0 w v l)(a:w.grownBy ab u.ownBlock)(d:∀g,v.ownBlock=U g->u.ownBlock≠U g):cF w0 ab v l:=by
 obtain⟨f,ha,e⟩:=h;refine⟨f,ha,e.kept a ?_⟩;cases b:v.ownBlock with
 |none=>exact .inl rfl
 |some g=>exact .inr λc=>d g b c.symm
theorem Kq.GV {gp:Nat}(h:Kq gp v w ab)(a:cF w0 w u l)(h1:u.ownBlock≠U gp)(h2:∀g,u.ownBlock=U g->v.ownBlock≠U g):cF w0 ab u l:=Kq.own (P:=mM) (w:=w) (λ_ _ h=>h) h a h1 h2
def E8 (l:List (Int×Int))(w:O)(e:aO)(c:O):Prop:= ∃a b,e=aw (D a l.length b)/\cF w c (D a l.length b) l/\V w c
theorem pX (w:O):aj ae 50 #[H I 2,H I 1] w (E8 [(1,2),(0,1)] w):=by
 have af:w.heap.size<=w.heap.size:=a8 _;go_enter func50,ntmps50;go_wp2_with fail;generalize aS:ah w _=aJ at*;obtain⟨f,e⟩:=aC aS;clear aS;have a3:=e.c1;have i:cF w aJ (D none 0 0) []:=aP.nil _ _ _ _ _;refine(o9 aJ).mono ?_;rintro g aK ⟨bd,bk,rfl,aE,u⟩;obtain⟨aY,fs,rfl,a2,B,av,aw⟩:=vz aE;have ax:aY≠w.heap.size:=by have:=e.lt;omega
 revert f e i;refine bo u ?_;intro f e i;clear u aE a3;go_wp2;refine wp_loop_rounds 3 ?_;rw[a9];have ay:=B.cell av;have az:=B.cell aw;go_wp2_with(go_at_call 85;refine(kr _).mono ?_;rintro g bb ⟨rfl,rfl⟩);clear ay az;have c:=(V.refl aK).alloc (ao #[H I 0,H I 1] 130);have ai:=Bx.new 130 aK [H I 0,H I 1];refine(td (l:=[]) (e.up c) (i.up c) (f.trans c) af ai (by simp)).mono ?_;rintro g an ⟨rfl,aB,c2,y,s,t,r⟩;replace B:=r _ _ _ ax (by simp[Value.ownBlock]) (B.up c);clear c ai e i f r;have e:Bx 173 an w.heap.size [D aB 1 c2]:=y;have i:cF w an (D aB 1 c2) [(0,1)]:=s;have f:=t;clear y s t;go_wp2_with fail;rw[a9];have ay:=B.cell av;have az:=B.cell aw;go_wp2_with(go_at_call 85;refine(kr _).mono ?_;rintro g bb ⟨rfl,rfl⟩);clear ay az;have c:=(V.refl an).alloc (ao #[H I 1,H I 2] 130);have ai:=Bx.new 130 an [H I 1,H I 2];refine(td (l:=[(0,1)]) (e.up c) (i.up c) (f.trans c) af ai (by simp)).mono ?_;rintro g aL ⟨rfl,aD,c3,y,s,t,r⟩;replace B:=r _ _ _ ax (E6 i B (by decide)) (B.up c);clear c ai e i f r;have e:Bx 173 aL w.heap.size [D aD 2 c3]:=y;have i:cF w aL (D aD 2 c3) [(0,1),(1,2)]:=s;have f:=t;clear y s t;obtain⟨g3,rfl,a1⟩:=E7 i;clear B av aw ax a2;go_wp2_with fail;rw[a9];go_wp2_with fail;have a4:=e.lt;refine(te (l:=[(0,1)]) (a:=1) (b:=2) e i f af (by simp)).mono ?_;rintro g n ⟨rfl,y,s,t,r⟩;have ab:Bx 173 n w.heap.size [D (U ⟨g3,0,none⟩) 1 c3]:=y;have Z:cF w n (D (U ⟨g3,0,none⟩) 1 c3) [(0,1)]:=s;clear e y i s f;have e:=ab;have i:=Z;have f:=t;clear ab Z t;clear r;have W:Y (w.heap.size<n.heap.size/\g3<n.heap.size):=G ⟨e.lt,(aP.lt i g3 rfl).2⟩;have j:cF w n (D none 0 0) []:=aP.nil _ _ _ _ _;have A:Y (∀d,(D none 0 0).ownBlock=U d->n.heap.size<=d):=G (by simp[Value.ownBlock]);go_wp2_with fail;have c:=(V.refl n).alloc (ao #[H I 1,H I 2] 130);have k:=Bx.new 130 n [H I 1,H I 2];have J:Y (n.heap.size<=n.heap.size):=G (a8 _);revert e i f j;refine bf c ?_;intro e i f j;have E:Y (n.heap.size<=(n.alloc (ao #[H I 1,H I 2] 130)).heap.size):=G c.size;clear c;generalize n.alloc (ao #[H I 1,H I 2] 130)=aM at*;refine wp_loop_rounds 3 ?_;rw[a9];have c:=(V.refl aM).alloc (ao #[H I 1,H I 2] 130);have P:=G (j.up c);have T:=G (f.trans c);have C:=G (k.up c);have Q:=G (e.up c);have S:=G (i.up c);clear e i f j c;have z:=k.c2;go_wp2_with(at_builtin;refine hB (ku _) underlying127 pa pc (by decide) (w0:=w) rfl _ _ rfl rfl P.out T.out rfl (heap_alloc_new aM _) (v:=(D none 0 0)) (q:=(1,2)) rfl (by simp) ?_;intro K m j M aH ak aF;have ag:Bx 130 m _ [H I 1,H I 2]:=(ak.block _ C.out.lt (by simp[Value.ownBlock])).trans C.out;clear z;have z:=ag.c2);clear z ag C k;have c:=(V.refl m).alloc (ao #[H I 1,H I 2] 130);have k:=Bx.new 130 m [H I 1,H I 2];have e:=(M.bx (by decide) Q.out).up c;have i:=(kW S.out ak λd g x=>by have F:=W.out.2;have aZ:=A.out d x;have aq:g3=d:=Option.some.inj g;omega).up c;have R:Y (∀d,K.ownBlock=U d->n.heap.size<=d):=G (vD A.out aF (by have F:=E.out;simp;omega));have am:Y (∀d,K.ownBlock=U d->d<m.heap.size):=G λd g=>(aP.lt j d g).2
 have J:=G (aQ (aQ E.out (by simp)) ak.size);have X:cF w _ K [(1,2)]:=cF.up j c;clear j;have j:=X;clear X;have f:=aH.trans c;have E:=G (aQ J.out c.size);have ba:=J.out;have ar:=W.out;have aU:=ar.1;clear c M ak aF aH A P T Q S;have A:=R;clear R;generalize m.alloc (ao #[H I 1,H I 2] 130)=bh at*;refine(te (l:=[]) (a:=0) (b:=1) e i f af (by simp)).mono ?_;rintro g L ⟨rfl,y,s,t,r⟩;have ab:Bx 173 L w.heap.size [D (U ⟨g3,0,none⟩) 0 c3]:=y;have Z:cF w L (D (U ⟨g3,0,none⟩) 0 c3) []:=s;clear e y i s f;have e:=ab;have i:=Z;have f:=t;clear ab Z t;have a5:=k.lt;have aT:m.heap.size≠w.heap.size:=by omega
 replace j:cF w _ K [(1,2)]:=r.GV j (λg=>by have F:=A.out w.heap.size g;omega) (λd g x=>by have F:=A.out d g;have aq:g3=d:=Option.some.inj x;omega);replace k:=r _ _ _ aT (λg=>by have aq:g3=m.heap.size:=Option.some.inj g;omega) k;have a7:=k.lt;clear r;have z:=k.c2;have aA:=k.free;go_wp2_with fail;have p:Bs 130 m.heap.size L ((L.setCell ⟨m.heap.size,0,none⟩ (H I 0)).setCell ⟨m.heap.size,1,none⟩ (H I 1)) _ _:=dK [H I 0,H I 1] 0 k rfl (Nat.le_of_ble_eq_true rfl);replace e:=e.bs p (by omega);replace f:=f.bs p (by omega);replace i:cF w _ (D (U ⟨g3,0,none⟩) 0 c3) []:=kW (u:=D (U ⟨m.heap.size,0,none⟩) 0 0) i p.gr λd g x=>by have aq:g3=d:=Option.some.inj g;have aR:m.heap.size=d:=Option.some.inj x;omega
 replace j:cF w _ K [(1,2)]:=kW (u:=D (U ⟨m.heap.size,0,none⟩) 0 0) j p.gr λd g x=>by have F:=am.out d g;have aR:m.heap.size=d:=Option.some.inj x;omega
 have aV:=p.new;clear k z aA;have k:Bx 130 _ m.heap.size [H I 0,H I 1]:=aV;have E:=G (aQ (show n.heap.size<=L.heap.size by omega) p.gr.size);clear aV p a5 a7 aT;generalize(L.setCell ⟨m.heap.size,0,none⟩ (H I 0)).setCell ⟨m.heap.size,1,none⟩ (H I 1)=aN at*;obtain⟨M,c6,(aW:K=D M 1 c6)⟩:=aP.form j;subst aW;rw[a9];have c:=(V.refl aN).alloc (ao #[H I 0,H I 1] 130);have P:=G (j.up c);have T:=G (f.trans c);have C:=G (k.up c);have Q:=G (e.up c);have S:=G (i.up c);clear e i f j c;have z:=k.c2;go_wp2_with(at_builtin;refine hB (ku _) underlying127 pa pc (by decide) (w0:=w) rfl _ _ rfl rfl P.out T.out rfl (heap_alloc_new aN _) (v:=(D M 1 c6)) (q:=(0,1)) rfl (by simp) ?_;intro aa o j N aI al aG;have ag:Bx 130 o _ [H I 0,H I 1]:=(al.block _ C.out.lt (λg=>by have:=am.out _ g.symm;omega)).trans C.out;clear z;have z:=ag.c2);clear z ag C k;have c:=(V.refl o).alloc (ao #[H I 0,H I 1] 130);have k:=Bx.new 130 o [H I 0,H I 1];have e:=(N.bx (by decide) Q.out).up c;have i:=(kW S.out al λd g x=>by have F:=W.out.2;have aZ:=A.out d x;have aq:g3=d:=Option.some.inj g;omega).up c;have R:Y (∀d,aa.ownBlock=U d->n.heap.size<=d):=G (vD A.out aG (by have F:=E.out;simp;omega));have am:Y (∀d,aa.ownBlock=U d->d<o.heap.size):=G λd g=>(aP.lt j d g).2
 have J:=G (aQ (aQ E.out (by simp)) al.size);have X:cF w _ aa [(1,2),(0,1)]:=cF.up j c;clear j;have j:=X;clear X;have f:=aI.trans c;have E:=G (aQ J.out c.size);have ba:=J.out;have ar:=W.out;have aU:=ar.1;clear c N al aG aI A P T Q S;have A:=R;clear R;generalize o.alloc (ao #[H I 0,H I 1] 130)=bi at*;refine(As e).mono ?_;rintro g au ⟨rfl,u⟩;replace j:=cF.up j u;replace k:=k.up u;replace f:=f.trans u;clear e i u W ar aU a1 a4 af;have z:=k.c2;have aA:=k.free;go_wp2_with fail;have p:Bs 130 o.heap.size au ((au.setCell ⟨o.heap.size,0,none⟩ (H I 0)).setCell ⟨o.heap.size,1,none⟩ (H I 0)) _ _:=dK [H I 0,H I 0] 0 k rfl (Nat.le_of_ble_eq_true rfl);replace f:=f.bs p (by omega);replace j:cF w _ aa [(1,2),(0,1)]:=kW (u:=D (U ⟨o.heap.size,0,none⟩) 0 0) j p.gr λd g x=>by have F:=am.out d g;have aR:o.heap.size=d:=Option.some.inj x;omega
 clear p k z aA;generalize(au.setCell ⟨o.heap.size,0,none⟩ (H I 0)).setCell ⟨o.heap.size,1,none⟩ (H I 0)=bj at*;obtain⟨N,aO,(aX:aa=D N 2 aO)⟩:=aP.form j;subst aX;rw[a9];go_wp2;go_ret;exact⟨N,aO,rfl,j,f⟩
theorem E9 (w:O):(ct 122).run ae w= .ok true w:=by kernel_rfl
theorem Fa (w:O):(ci 122).run ae w= .ok 4 w:=by kernel_rfl
structure Fb (k ky:Nat) (w0 w:O) (x:List W) (h1 h2 t1 t2:Rat) (y1 y2:List Rat):Prop where
 He:∃AS AT AY cS cT cY n0,x=[H I 1,D AS 2 cS,D AT 2 cT,D AY 2 cY]/\aF k w (D AS 2 cS) [h1,h2]/\aF k w (D AT 2 cT) [t1,t2]/\cM n0 ky w0 w (D AY 2 cY) [U y1,U y2]
theorem vF (w:O):aj ae 85 #[H I 1] w λe b=>e=aw (H I 1)/\V w b:=(kr w).mono λ_ _ a=>⟨a.1,a.2▸V.refl w⟩
def Fc (k:Nat)(h1 h2:Rat)(w:O)(e:aO)(c:O):Prop:= ∃a b,e=aw (D a 2 b)/\aF k c (D a 2 b) [h1,h2]/\V w c
theorem Fe {k:Nat}{l:List Z.Tr}{b c:Z.Tr}(ha:l=[b,c])(h:dT k (l.map λr=>r.h) w e ab):Fc k b.h c.h w e ab:=by
 subst ha;obtain⟨m,i,a,j⟩:=h;obtain⟨d,f,g⟩:=a.form;subst g;exact⟨d,f,i,a.a,j⟩
def Ff (k i:Nat)(f g:Z.Tr)(w:O)(e:aO)(a:O):Prop:= ∃b c B d l j,e=aw (aY #[D b 3 c,D B 3 d])/\aF k a (D b 3 c) [f.t,g.t,l]/\cM j i w a (D B 3 d) [U f.y,U g.y,none]/\V w a
theorem Fg {k:Nat}{l:List Z.Tr}{a b:Z.Tr}(ha:l=[a,b])(h:vx k ky l.length (l.map λr=>r.t) (l.map λr=>U r.y) w e ab):Ff k ky a b w e ab:=by
 subst ha;exact h
structure Gk (g:Nat) (w ab:O):Prop where
 gb:Gb g w ab
theorem Gk.up {g:Nat}{w w1 ab:O}(h:Gk g w w1)(u:V w1 ab):Gk g w ab:=⟨Gb.trans h.gb (Gb.up u)⟩
instance Gk.bW {g:Nat} {w w1 ab:O}:Lu (V w1 ab) (Gk g w w1) (Gk g w ab):=bu λu h=>h.up u
theorem Gk.bs (h:Gk g w w1)(b:Bs T g w1 ab old new):Gk g w ab:=⟨Gb.trans h.gb ⟨b.gr,b.kw⟩⟩
theorem Gk.gr {row:Option Nat}(h:Gk g w w1)(a:w1.grownBy ab row)(K:Kw w1 ab)(d:∀j,row=U j->w.heap.size<=j):Gk g w ab:=
 ⟨⟨a.os.trans h.gb.1.os,a.tape.trans h.gb.1.tape,a.output.trans h.gb.1.output,aQ h.gb.1.size a.size,λj b c=>(a.block j (Nat.lt_of_lt_of_le b h.gb.1.size) (λe=>absurd (d j e.symm) (by omega))).trans (h.gb.1.block j b c)⟩,h.gb.2.trans K⟩
theorem Gk.bx {T:an}{g bI:Nat}{w ab:O}{vs:List W}(h:Gk g w ab)(hb:Bx T w bI vs)(a:bI≠g):Bx T ab bI vs:=h.gb.bx hb a
theorem Gk.qC {k:Nat}(h:Gk g w ab)(a:aF k w v qs)(hb:Bx T w g vs)(b:53≠T):aF k ab v qs:=aA.kept (aR k) a h.gb.2 h.gb.1 (.inr (eu a hb b))
theorem cM.bs {k:Nat}(h:cM n0 k w0 w v ls)(b:Bs T g w ab old new)(a:53≠T/\44≠T:=by decide):cM n0 k w0 ab v ls:=by
 obtain⟨j,ha,d⟩:=h;refine⟨j,ha.imp λx q ⟨f,n,c,h1,h2⟩=>⟨f,n,c,h1,λl e=>⟨aA.kept (aR k) (h2 l e).1 b.kw b.gr (.inr (eu (h2 l e).1 b.old a.1)),(h2 l e).2⟩⟩,d.kept b.gr ?_⟩;rcases d.2 with⟨rfl,_⟩|⟨bI,ys,rfl,_,i,_⟩
 .exact .inl rfl
 .exact .inr λe=>by
   cases e;exact a.2 (gh i b.old)
theorem Fh {k:Nat}{w:O}{A:Option am}{c:Nat}{q1 q2 q3:Rat}(h:aF k w (D A 3 c) [q1,q2,q3]):∃(g:Nat) (t1 t2:Bool) (b B2 d e:Option am) (m n f i o p j l:Nat) (more:List W),A=U ⟨g,0,none⟩/\Bx 53 w g ([J t1,D b m f,D d o j,J t2,D B2 n i,D e p l]++more)/\Qk k w (af #[J t1,D b m f,D d o j]) q1/\Qk k w (af #[J t2,D B2 n i,D e p l]) q2:=by
 obtain⟨u,ha,s⟩:=h
 match u,ha with
 |[C,F,K],ha=>
  have q:Qk k w C.agg q1:=ha.2 0 _ _ rfl rfl;have r:Qk k w F.agg q2:=ha.2 1 _ _ rfl rfl;obtain⟨t1,b,d,m,f,o,j,rfl⟩:=q.form;obtain⟨t2,B2,e,n,i,p,l,rfl⟩:=r.form;rcases s.2 with⟨a,_⟩|⟨g,v,a,hb,t,_⟩
  .cases a
  .injection a with a
   exact⟨g,t1,t2,b,B2,d,e,m,n,f,i,o,p,j,l,aS (K::v),a,t,q,r⟩
 |[],ha=>exact absurd ha.1 (by simp)
 |[_],ha=>exact absurd ha.1 (by simp)
 |[_,_],ha=>exact absurd ha.1 (by simp)
 |_::_::_::_::_,ha=>exact absurd ha.1 (by simp)
theorem vG {n0 k m c:Nat}{w0 w:O}{A:Option am}{y1 y2:List Rat}{ls:List (Option (List Rat))}(h:cM n0 k w0 w (D A m c) (U y1::U y2::ls)):∃(g:Nat) (b d:Option am) (c1 c2:Nat) (more:List W),A=U ⟨g,0,none⟩/\Bx 44 w g ([D b y1.length c1,D d y2.length c2]++more)/\aF k w (D b y1.length c1) y1/\aF k w (D d y2.length c2) y2:=by
 obtain⟨C,ha,l⟩:=h
 match C,ha with
 |F::K::C,ha=>
  obtain⟨b,r,c1,e,o⟩:jy n0 k w F (U y1):=ha.2 0 _ _ rfl rfl;obtain⟨d,s,c2,f,p⟩:jy n0 k w K (U y2):=ha.2 1 _ _ rfl rfl;subst e f;have i:=(o y1 rfl).1;have j:=(p y2 rfl).1;obtain⟨_,_,e⟩:=i.form;obtain⟨_,_,f⟩:=j.form;cases e;cases f;rcases l.2 with⟨_,a⟩|⟨g,q,a,hb,n,_⟩
  .cases a
  .injection a with a
   exact⟨g,b,d,c1,c2,(C++q).flatten,a,n,i,j⟩
 |[],ha=>exact absurd ha.1 (by simp)
 |[_],ha=>exact absurd ha.1 (by simp)
theorem Fi {k:Nat}{trs:List Z.Tr}{z M:Z.Tr}(h:ew k ky w x trs t y)(cj:Y (trs.length<=200/\ ∀r∈trs,r.y.length<=6))(da:y.length<=6)(ch:k<=1000000)(ci:ky<=1000000)(ha:Y (trs.filter (λr=>r.ok)=[z,M])):
 aj ae 48 #[af x.toArray,H I 1] w λe N=> ∃xs,e=aw (af xs.toArray)/\Fb k ky w N xs z.h M.h z.t M.t z.y M.y/\V w N:=by
 have b6:=G h;obtain⟨cJ,cu,ai,cK,di,bl,n,cL,dh,cQ,cz,rfl,c4,c9,c5⟩:=h;clear c4 c9 c5;go_enter func48,ntmps48;go_upto_region 1 with fail
 generalize u:ah (ah w _) _=Q at*;obtain⟨b,s,E⟩:=br u;clear u;have aK:=E.c4;have bq:=E.free;have dJ:w.heap.size+1<Q.heap.size:=E.lt;have bP:=G E;have cA:=G s;have cb:=G b;clear E aK bq;clear b;have b:=V.refl Q
 go_cut [5] (λdj ao=> ∃(bU:Nat) (aN:Option am) (aQ:Nat),dj=az (U ⟨bU,0,none⟩)/\Q.heap.size<=bU/\Bx 122 ao bU [H I 1,D aN 2 aQ,D none 0 0,D none 0 0]/\aF k ao (D aN 2 aQ) [z.h,M.h]/\V Q ao)
 case first=>
  have aq:=s.k 0;have ar:=s.k 1;have au:=s.k 2;have ay:=s.k 3;have aB:=s.k 4;revert s b aq ar au ay aB;refine bS (V.refl Q).drew ?_;intro s b aq ar au ay aB
  refine aZ ?_;refine a3 (S:=λN=>V Q N/\Cz N (w.heap.size) 0 [D cJ trs.length bl,J di,D cu n cL,D ai dh cQ,D cK y.length cz]) (by kernel_rfl) (by exact⟨b,s.cz⟩) (λo=> ?_);generalize Q.drew=j at*;refine aa 0 ?_;refine aa 2 ?_
  repeat' first
   |(have d:=aD;clear aD
     (try clear o)
     go_simp;go_at_call 85
     with_reducible refine(vF j).mono ?_
     rintro e j ⟨rfl,bf⟩
     try(replace sz:=sz.up bf)
     revert s b aq ar au ay aB;refine bS bf ?_;intro s b aq ar au ay aB
     try(replace a:=a.up bf)
     clear bf
     try go_wp2_with fail
     refine ax d (by exact⟨b,s.cz⟩) (λo=> ?_);clear d A)
   |(have d:=cn;clear cn
     (try clear o)
     go_simp;go_at_call 86
     with_reducible refine((E4 (b6.out.up (cb.out.trans b)) cj ch ci).mono λ_ _ h=>Fe ha.out h).mono ?_
     rintro e j ⟨cv,cP,rfl,sz,bf⟩;revert s b aq ar au ay aB;refine bS bf ?_;intro s b aq ar au ay aB
     try(replace a:=a.up bf)
     clear bf
     try go_wp2_with fail
     refine ax d (by exact⟨b,s.cz⟩) (λo=> ?_);clear d A)
   |(have d:=cp;clear cp
     (try clear o)
     go_simp;have dz:=s.lt;have df:=b.size;generalize ab:j.heap.size=cY at*;generalize u:ah j _=j at*;obtain⟨al,a⟩:=b3 u ab;clear u ab
     try(replace sz:=sz.up al)
     revert s b aq ar au ay aB;revert al;refine eR ?_;intro s b aq ar au ay aB
     refine ax d (by exact⟨b,s.cz⟩) (λo=> ?_);clear d A)
   |(have d:=aH;clear aH
     (try clear o)
     obtain⟨cN,cO,bw,bx⟩:=a.c4;have cW:=a.free 0;have cX:=a.free 1;have bz:=a.free 2;have bA:=a.free 3;go_simp;clear cN cO bw bx cW cX bz bA;generalize u:ag (ag (ag (ag j _ _) _ _) _ _) _ _=j at*;have l:=bp a u;clear u
     try(replace sz:=sz.bs l)
     replace s:=s.bs l;replace a:=l.new;replace b:=b.bs l;clear l;clear aq ar au ay aB;have aq:=s.k 0;have ar:=s.k 1;have au:=s.k 2;have ay:=s.k 3;have aB:=s.k 4;refine ax d (by exact⟨b,s.cz⟩) (λo=> ?_);clear d A)
   |(with_reducible show b5 _ _ _ _ _ _ _ _ _ _
     first
      |refine av (i:=1) rfl (λA aD=> ?_) ?_
      |refine av (i:=3) rfl (λA cn=> ?_) ?_
      |refine av (i:=5) rfl (λA cp=> ?_) ?_
      |refine av (i:=6) rfl (λA aH=> ?_) ?_
      |exact bm)
   |(with_reducible show bJ _ _ _ _ _ _ _ _ _
     first
      |refine ak [1,5] ?_
      |refine ak [1] ?_
      |refine ak [3,5] ?_
      |refine ak [3] ?_
      |refine ak [5] ?_
      |refine ak [6] ?_
      |refine aa 4 ?_
      |refine aW (by decide +kernel) (aX ?_) _)
   |fail
  all_goals try clear o
  all_goals obtain⟨bW,bD,B,C⟩:=a.c4
  all_goals
   have c7:=df;go_wp2_with fail
   go_meet
   exact⟨cY,cv,cP,rfl,c7,a,sz,b⟩
 case rest=>
  obtain⟨X,aN,aQ,rfl,dE,a,sz,bI⟩:=hcut;have E:=bP.out.up bI;have s:=cA.out.up bI;have b:=cb.out.trans bI;have c6:=a.lt;clear bI c6;have aK:=E.c4;have bq:=E.free;have aq:=s.k 0;have ar:=s.k 1;have au:=s.k 2;have ay:=s.k 3;have aB:=s.k 4;go_wp2_with fail;have ca:=(E5 (b6.out.up b) cj da ch ci).mono λ_ _ h=>Fg ha.out h
  refine ca.mono ?_;clear ca;rintro e w1 ⟨bo,dB,dx,dC,dM,dL,rfl,bK,bL,bF⟩;clear aq ar au ay aB;revert a sz E s b aK;refine bO bF ?_;intro a sz E s b aK
  replace bq:=E.free;clear bF;have bD:=a.k 1;go_wp2_with fail;refine(o9 w1).mono ?_;rintro e w2 ⟨dw,dA,rfl,cc,bF⟩;clear bD;revert bK bL a sz E s b aK;refine b9 bF ?_;intro bK bL a sz E s b aK
  replace bq:=E.free;clear bF;obtain⟨cZ,fs,rfl,dF,aS,ck,cm⟩:=vz cc;obtain⟨gt,ds,dt,cw,B2,cx,cy,db,dc,cR,cS,dd,de,cU,cV,mt,rfl,g,cr,ct⟩:=Fh bK;obtain⟨bV,b2,b4,c1,c2,dK,rfl,p,q1,b1⟩:=vG bL;have cD:=G aS;have bG:=G g;have bH:=G p;have cE:=G cr;have cF:=G ct;have cG:=G q1;have cH:=G b1;have cI:=G sz;have bN:=G a;have bP:=G E;have aJ:=G b;have aI:Y (cZ≠X/\gt≠X/\bV≠X):=G ⟨λe=>by(subst e;exact absurd (gh aS a) (by decide)),λe=>by(subst e;exact absurd (gh g a) (by decide)),λe=>by(subst e;exact absurd (gh p a) (by decide))⟩;obtain⟨dG,dH,dI⟩:=aI.out;have cB:Y (∀L,(D b2 z.y.length c1).ownBlock=U L->L<w2.heap.size):=G λL e=>(aA.lt q1 L e).2
  have cC:Y (∀L,(D b4 M.y.length c2).ownBlock=U L->L<w2.heap.size):=G λL e=>(aA.lt b1 L e).2
  have c:Gk X w2 w2:=⟨Gb.refl _ _⟩;have f:aL k w2 w2 (D none 0 0) []:=aA.nil _ _ _ _;have m:cM w2.heap.size ky w2 w2 (D none 0 0) []:=aP.nil _ _ _ _ _;have bZ:=aS.cell ck;have b0:=aS.cell cm;have dD:w.heap.size+1<X:=by omega
  clear bK bL aS g p cr ct q1 b1 sz s E aK bq cc;go_wp2_with fail;refine wp_loop_rounds 3 ?_;rw[a9];have B:=a.k 2;go_upto_region 6 with fail
  clear bZ b0 B
  go_cut [37] (λ_ ao=> ∃(bo:Option am) (bl:Nat),Bx 122 ao X [H I 1,D aN 2 aQ,D bo 1 bl,D none 0 0]/\aL k w2 ao (D bo 1 bl) ([]++[z.t])/\cM w2.heap.size ky w2 ao (D none 0 0) []/\Gk X w2 ao)
  case first=>
   have b:=c.gb.du aJ.out (by omega);have g:=c.bx bG.out aI.out.2.1;have K:=(cE.out).kw c.gb.2;have B:=a.k 2;have a2:=g.k 0;have a5:=g.k 1;have a7:=g.k 2;revert a c f m b g K B a2 a5 a7;refine bC (V.refl w2).drew ?_;intro a c f m b g K B a2 a5 a7
   refine aZ ?_;refine a3 (S:=λN=>V w N/\Cz N gt 0 [J ds,D cw db cR,D cx dd cU]) (by kernel_rfl) (by exact⟨b,g.cy 0 3⟩) (λo=> ?_);generalize w2.drew=j at*;refine aa 0 ?_;refine aa 2 ?_;refine aa 3 ?_;refine aa 4 ?_;refine aa 5 ?_
   repeat' first
    |(have d:=aD;clear aD
      (try clear o)
      go_simp;refine ax d (by exact⟨b,g.cy 0 3⟩) (λo=> ?_);clear d A)
    |(have d:=aH;clear aH
      (try clear o)
      go_simp;have bX:=a.lt;have du:=g.lt;have dk:=b.size;generalize ab:j.heap.size=c0 at*;generalize u:ah j _=j at*;obtain⟨al,aE⟩:=b3 u ab;clear u ab;revert a c f m b g K B;refine b9 al ?_;intro a c f m b g K B
      clear a2 a5 a7;have a2:=g.k 0;have a5:=g.k 1;have a7:=g.k 2;clear al;refine ax d (by exact⟨b,g.cy 0 3⟩) (λo=> ?_);clear d A)
    |(have d:=aV;clear aV
      (try clear o)
      obtain⟨T,R,u9⟩:=fk (n:=w2.heap.size) (w:=j) c.gb.1.size;have aC:aA (Qk k) 53 T.heap.size j (D none 0 0) []:=by rw[R];exact f
      refine kg (aR k) underlying44 d7 (w0:=T) (by rfl) (.tmp 31) (.tmp 36) (by rfl) (v:=D none 0 0) (by rfl) aC u9 (by rfl) aE K (by simp) ?_;intro bR an F aO P bk;replace m:=cM.gr m f (a8 _) aO P;replace c:=c.gr P aO (λL e=>(aA.lt f L e).1);replace a:Bx 122 an X [H I 1,D aN 2 aQ,D none 0 0,D none 0 0]:=(P.block _ a.lt (λe=>eu f a (by decide) e.symm)).trans a;replace g:=c.bx bG.out aI.out.2.1;replace b:=c.gb.du aJ.out (by omega);replace K:=K.kw aO;obtain⟨aT,aY,rfl⟩:=aA.form F;rw[R,show(([]:List Rat)++[z.t]).length=1 from rfl]at F;rw[show(([]:List Rat)++[z.t]).length=1 from rfl];clear f;have f:aL k w2 an (D aT 1 aY) ([]++[z.t]):=F;clear aE aC u9 R T aO P bk F;obtain⟨j,bn⟩:∃Q,Q=an:=⟨_,rfl⟩;subst bn;clear B;have B:=a.k 2;clear a2 a5 a7;have a2:=g.k 0;have a5:=g.k 1;have a7:=g.k 2;refine ax d (by exact⟨b,g.cy 0 3⟩) (λo=> ?_);clear d A)
    |(have d:=bh;clear bh
      (try clear o)
      have bw:=a.k 2;have bz:=a.free 2;go_simp;clear bw bz;generalize u:ag j _ _=j at*;have l:=eJ a u;clear u;replace f:=ef (aR k) f l (by decide);replace m:=m.bs l (by decide);replace c:=c.bs l;replace K:=K.kw l.kw;replace g:=g.bs l
      try(replace aE:=aE.bs l (by first|omega|(have:=dn;omega)|(have:=bX;omega)))
      replace a:=l.new;replace b:=b.bs l;clear l;clear B;have B:=a.k 2;clear a2 a5 a7;have a2:=g.k 0;have a5:=g.k 1;have a7:=g.k 2;refine ax d (by exact⟨b,g.cy 0 3⟩) (λo=> ?_);clear d A)
    |(with_reducible show b5 _ _ _ _ _ _ _ _ _ _
      first
       |refine av (i:=1) rfl (λA aD=> ?_) ?_
       |refine av (i:=6) rfl (λA aH=> ?_) ?_
       |refine av (i:=7) rfl (λA aV=> ?_) ?_
       |refine av (i:=9) rfl (λA bh=> ?_) ?_
       |exact bm)
    |(with_reducible show bJ _ _ _ _ _ _ _ _ _
      first
       |refine ak [1,6] ?_
       |refine ak [1] ?_
       |refine ak [6] ?_
       |refine ak [9] ?_
       |refine ak [1] ?_
       |refine ak [7] ?_
       |refine aa 8 ?_
       |refine aW (by decide +kernel) (aX ?_) _)
    |fail
   all_goals try clear o
   all_goals try(have dm:=aE.c3)
   all_goals
    go_wp2_with fail
    go_meet
    exact⟨aT,aY,a,f,m,c⟩
  obtain⟨aT,aY,co,cd,cf,b7⟩:=hcut;clear a f m c;have a:=co;have f:=cd;have m:=cf;have c:=b7;clear co cd cf b7;have C:=a.k 3;go_upto_region 7 with fail
  clear C;have b:=c.gb.du aJ.out (by omega);have p:=c.bx bH.out aI.out.2.2;have C:=a.k 3;have bi:=p.k 0;revert a f m c b p C bi;refine b9 (V.refl wc).drew ?_;intro a f m c b p C bi
  refine aZ ?_;refine a3 (S:=λN=>V w N/\Cz N bV 0 [D b2 z.y.length c1]) (by kernel_rfl) (by exact⟨b,p.cy 0 1⟩) (λo=> ?_);generalize wc.drew=j at*;refine aa 0 ?_;refine aa 2 ?_;refine aa 3 ?_;refine aa 4 ?_;refine aa 5 ?_
  repeat' first
   |(have d:=aD;clear aD
     (try clear o)
     go_simp;refine ax d (by exact⟨b,p.cy 0 1⟩) (λo=> ?_);clear d A)
   |(have d:=aH;clear aH
     (try clear o)
     go_simp;have bY:=a.lt;have dv:=p.lt;have dp:=b.size;generalize ab:j.heap.size=c3 at*;generalize u:ah j _=j at*;obtain⟨al,aG⟩:=b3 u ab;clear u ab;revert a f m c b p C;refine bS al ?_;intro a f m c b p C
     clear bi;have bi:=p.k 0;clear al;refine ax d (by exact⟨b,p.cy 0 1⟩) (λo=> ?_);clear d A)
   |(have d:=aV;clear aV
     (try clear o)
     obtain⟨T,R,u9⟩:=fk (n:=w2.heap.size) (w:=j) c.gb.1.size;have aC:aP (jy w2.heap.size ky) 1 44 T.heap.size j (D none 0 0) []:=by rw[R];exact m
     have bE:=c.qC cG.out bN.out (by decide);refine fm (by rfl) ?_;refine jx (v:=D none 0 0) (kV _ _) underlying45 hJ hK (by decide) (w0:=T) (.tmp 40) (.tmp 45) (by rfl) (by rfl) aC u9 (by rfl) aG (q:=U z.y) ⟨_,_,_,rfl,λdg e=>by cases e;exact⟨bE,cB.out⟩⟩ (by simp) ?_;intro bR an F aM bk P;replace f:=aM.own (aR k) (by decide) f;replace c:=c.gr P aM.1 (λL e=>(aP.lt m L e).1);replace a:=aM.bx (by decide) a;replace p:=c.bx bH.out aI.out.2.2;replace b:=c.gb.du aJ.out (by omega);obtain⟨aU,a1,rfl⟩:=aP.form F;rw[R,show(([]:List (Option (List Rat)))++[U z.y]).length=1 from rfl]at F;rw[show(([]:List (Option (List Rat)))++[U z.y]).length=1 from rfl];clear m;have m:cM w2.heap.size ky w2 an (D aU 1 a1) ([]++[U z.y]):=F;clear aG aC u9 R T aM P bk F bE;obtain⟨j,bn⟩:∃Q,Q=an:=⟨_,rfl⟩;subst bn;clear C;have C:=a.k 3;clear bi;have bi:=p.k 0;refine ax d (by exact⟨b,p.cy 0 1⟩) (λo=> ?_);clear d A)
   |(have d:=bh;clear bh
     (try clear o)
     have bx:=a.k 3;have bA:=a.free 3;go_simp;clear bx bA;generalize u:ag j _ _=j at*;have l:=eJ a u;clear u;replace f:=ef (aR k) f l (by decide);replace m:=m.bs l (by decide);replace c:=c.bs l;replace p:=p.bs l
     try(replace aG:=aG.bs l (by first|omega|(have:=dr;omega)|(have:=bY;omega)))
     replace a:=l.new;replace b:=b.bs l;clear l;clear C;have C:=a.k 3;clear bi;have bi:=p.k 0;refine ax d (by exact⟨b,p.cy 0 1⟩) (λo=> ?_);clear d A)
   |(with_reducible show b5 _ _ _ _ _ _ _ _ _ _
     first
      |refine av (i:=1) rfl (λA aD=> ?_) ?_
      |refine av (i:=6) rfl (λA aH=> ?_) ?_
      |refine av (i:=7) rfl (λA aV=> ?_) ?_
      |refine av (i:=9) rfl (λA bh=> ?_) ?_
      |exact bm)
   |(with_reducible show bJ _ _ _ _ _ _ _ _ _
     first
      |refine ak [1,6] ?_
      |refine ak [1] ?_
      |refine ak [6] ?_
      |refine ak [9] ?_
      |refine ak [1] ?_
      |refine ak [7] ?_
      |refine aa 8 ?_
      |refine aW (by decide +kernel) (aX ?_) _)
   |fail
  all_goals try clear o
  all_goals try(have dq:=aG.c1)
  all_goals have bB:Bx 122 j X [H I 1,D aN 2 aQ,D aT 1 aY,D aU 1 a1]:=a
  all_goals have bt:aL k w2 j (D aT 1 aY) [z.t]:=f
  all_goals have bu:cM w2.heap.size ky w2 j (D aU 1 a1) [U z.y]:=m
  all_goals clear a f m b p
  all_goals have a:=bB
  all_goals have f:=bt
  all_goals have m:=bu
  all_goals clear bB bt bu
  all_goals
   have aS:=c.bx cD.out aI.out.1;have bZ:=aS.cell ck;have b0:=aS.cell cm;clear aS;go_wp2_with fail;rw[a9];have B:=a.k 2;go_upto_region 6 with fail
   clear bZ b0 B
   go_cut [37] (λ_ ao=> ∃(bo:Option am) (bl:Nat),Bx 122 ao X [H I 1,D aN 2 aQ,D bo 2 bl,D aU 1 a1]/\aL k w2 ao (D bo 2 bl) ([z.t]++[M.t])/\cM w2.heap.size ky w2 ao (D aU 1 a1) [U z.y]/\Gk X w2 ao)
   case first=>
    have b:=c.gb.du aJ.out (by omega);have g:=c.bx bG.out aI.out.2.1;have K:=(cF.out).kw c.gb.2;have B:=a.k 2;have ba:=g.k 3;have bb:=g.k 4;have bd:=g.k 5;revert c a f m b g K B ba bb bd;refine bC (V.refl j).drew ?_;intro c a f m b g K B ba bb bd
    refine aZ ?_;refine a3 (S:=λN=>V w N/\Cz N gt 3 [J dt,D B2 dc cS,D cy de cV]) (by kernel_rfl) (by exact⟨b,g.cy 3 3⟩) (λo=> ?_);generalize j.drew=j at*;refine aa 0 ?_;refine aa 2 ?_;refine aa 3 ?_;refine aa 4 ?_;refine aa 5 ?_
    repeat' first
     |(have d:=aD;clear aD
       (try clear o)
       go_simp;refine ax d (by exact⟨b,g.cy 3 3⟩) (λo=> ?_);clear d A)
     |(have d:=aH;clear aH
       (try clear o)
       go_simp;have bX:=a.lt;have du:=g.lt;have dk:=b.size;generalize ab:j.heap.size=c0 at*;generalize u:ah j _=j at*;obtain⟨al,aE⟩:=b3 u ab;clear u ab;revert c a f m b g K B;refine b9 al ?_;intro c a f m b g K B
       clear ba bb bd;have ba:=g.k 3;have bb:=g.k 4;have bd:=g.k 5;clear al;refine ax d (by exact⟨b,g.cy 3 3⟩) (λo=> ?_);clear d A)
     |(have d:=aV;clear aV
       (try clear o)
       obtain⟨T,R,u9⟩:=fk (n:=w2.heap.size) (w:=j) c.gb.1.size;have aC:aA (Qk k) 53 T.heap.size j (D aT 1 aY) [z.t]:=by rw[R];exact f
       refine kg (aR k) underlying44 d7 (w0:=T) (by rfl) (.tmp 31) (.tmp 36) (by rfl) (v:=D aT 1 aY) (by rfl) aC u9 (by rfl) aE K (by simp) ?_;intro bR an F aO P bk;replace m:=cM.gr m f (a8 _) aO P;replace c:=c.gr P aO (λL e=>(aA.lt f L e).1);replace a:Bx 122 an X [H I 1,D aN 2 aQ,D aT 1 aY,D aU 1 a1]:=(P.block _ a.lt (λe=>eu f a (by decide) e.symm)).trans a;replace g:=c.bx bG.out aI.out.2.1;replace b:=c.gb.du aJ.out (by omega);replace K:=K.kw aO;obtain⟨bs,bv,rfl⟩:=aA.form F;rw[R,show(([z.t]:List Rat)++[M.t]).length=2 from rfl]at F;rw[show(([z.t]:List Rat)++[M.t]).length=2 from rfl];clear f;have f:aL k w2 an (D bs 2 bv) ([z.t]++[M.t]):=F;clear aE aC u9 R T aO P bk F;obtain⟨j,bn⟩:∃Q,Q=an:=⟨_,rfl⟩;subst bn;clear B;have B:=a.k 2;clear ba bb bd;have ba:=g.k 3;have bb:=g.k 4;have bd:=g.k 5;refine ax d (by exact⟨b,g.cy 3 3⟩) (λo=> ?_);clear d A)
     |(have d:=bh;clear bh
       (try clear o)
       have bw:=a.k 2;have bz:=a.free 2;go_simp;clear bw bz;generalize u:ag j _ _=j at*;have l:=eJ a u;clear u;replace f:=ef (aR k) f l (by decide);replace m:=m.bs l (by decide);replace c:=c.bs l;replace K:=K.kw l.kw;replace g:=g.bs l
       try(replace aE:=aE.bs l (by first|omega|(have:=dn;omega)|(have:=bX;omega)))
       replace a:=l.new;replace b:=b.bs l;clear l;clear B;have B:=a.k 2;clear ba bb bd;have ba:=g.k 3;have bb:=g.k 4;have bd:=g.k 5;refine ax d (by exact⟨b,g.cy 3 3⟩) (λo=> ?_);clear d A)
     |(with_reducible show b5 _ _ _ _ _ _ _ _ _ _
       first
        |refine av (i:=1) rfl (λA aD=> ?_) ?_
        |refine av (i:=6) rfl (λA aH=> ?_) ?_
        |refine av (i:=7) rfl (λA aV=> ?_) ?_
        |refine av (i:=9) rfl (λA bh=> ?_) ?_
        |exact bm)
     |(with_reducible show bJ _ _ _ _ _ _ _ _ _
       first
        |refine ak [1,6] ?_
        |refine ak [1] ?_
        |refine ak [6] ?_
        |refine ak [9] ?_
        |refine ak [1] ?_
        |refine ak [7] ?_
        |refine aa 8 ?_
        |refine aW (by decide +kernel) (aX ?_) _)
     |fail
    all_goals try clear o
    all_goals try(have dm:=aE.c3)
    all_goals
     go_wp2_with fail
     go_meet
     exact⟨bs,bv,a,f,m,c⟩
   obtain⟨bs,bv,cq,ce,cg,b8⟩:=hcut;clear a f m c;have a:=cq;have f:=ce;have m:=cg;have c:=b8;clear cq ce cg b8;have C:=a.k 3;go_upto_region 7 with fail
   clear C;have b:=c.gb.du aJ.out (by omega);have p:=c.bx bH.out aI.out.2.2;have C:=a.k 3;have bj:=p.k 1;revert a f m c b p C bj;refine b9 (V.refl wc).drew ?_;intro a f m c b p C bj
   refine aZ ?_;refine a3 (S:=λN=>V w N/\Cz N bV 1 [D b4 M.y.length c2]) (by kernel_rfl) (by exact⟨b,p.cy 1 1⟩) (λo=> ?_);generalize wc.drew=j at*;refine aa 0 ?_;refine aa 2 ?_;refine aa 3 ?_;refine aa 4 ?_;refine aa 5 ?_
   repeat' first
    |(have d:=aD;clear aD
      (try clear o)
      go_simp;refine ax d (by exact⟨b,p.cy 1 1⟩) (λo=> ?_);clear d A)
    |(have d:=aH;clear aH
      (try clear o)
      go_simp;have bY:=a.lt;have dv:=p.lt;have dp:=b.size;generalize ab:j.heap.size=c3 at*;generalize u:ah j _=j at*;obtain⟨al,aG⟩:=b3 u ab;clear u ab;revert a f m c b p C;refine bS al ?_;intro a f m c b p C
      clear bj;have bj:=p.k 1;clear al;refine ax d (by exact⟨b,p.cy 1 1⟩) (λo=> ?_);clear d A)
    |(have d:=aV;clear aV
      (try clear o)
      obtain⟨T,R,u9⟩:=fk (n:=w2.heap.size) (w:=j) c.gb.1.size;have aC:aP (jy w2.heap.size ky) 1 44 T.heap.size j (D aU 1 a1) [U z.y]:=by rw[R];exact m
      have bE:=c.qC cH.out bN.out (by decide);refine fm (by rfl) ?_;refine jx (v:=D aU 1 a1) (kV _ _) underlying45 hJ hK (by decide) (w0:=T) (.tmp 40) (.tmp 45) (by rfl) (by rfl) aC u9 (by rfl) aG (q:=U M.y) ⟨_,_,_,rfl,λdg e=>by cases e;exact⟨bE,cC.out⟩⟩ (by simp) ?_;intro bR an F aM bk P;replace f:=aM.own (aR k) (by decide) f;replace c:=c.gr P aM.1 (λL e=>(aP.lt m L e).1);replace a:=aM.bx (by decide) a;replace p:=c.bx bH.out aI.out.2.2;replace b:=c.gb.du aJ.out (by omega);obtain⟨bM,bT,rfl⟩:=aP.form F;rw[R,show(([U z.y]:List (Option (List Rat)))++[U M.y]).length=2 from rfl]at F;rw[show(([U z.y]:List (Option (List Rat)))++[U M.y]).length=2 from rfl];clear m;have m:cM w2.heap.size ky w2 an (D bM 2 bT) ([U z.y]++[U M.y]):=F;clear aG aC u9 R T aM P bk F bE;obtain⟨j,bn⟩:∃Q,Q=an:=⟨_,rfl⟩;subst bn;clear C;have C:=a.k 3;clear bj;have bj:=p.k 1;refine ax d (by exact⟨b,p.cy 1 1⟩) (λo=> ?_);clear d A)
    |(have d:=bh;clear bh
      (try clear o)
      have bx:=a.k 3;have bA:=a.free 3;go_simp;clear bx bA;generalize u:ag j _ _=j at*;have l:=eJ a u;clear u;replace f:=ef (aR k) f l (by decide);replace m:=m.bs l (by decide);replace c:=c.bs l;replace p:=p.bs l
      try(replace aG:=aG.bs l (by first|omega|(have:=dr;omega)|(have:=bY;omega)))
      replace a:=l.new;replace b:=b.bs l;clear l;clear C;have C:=a.k 3;clear bj;have bj:=p.k 1;refine ax d (by exact⟨b,p.cy 1 1⟩) (λo=> ?_);clear d A)
    |(with_reducible show b5 _ _ _ _ _ _ _ _ _ _
      first
       |refine av (i:=1) rfl (λA aD=> ?_) ?_
       |refine av (i:=6) rfl (λA aH=> ?_) ?_
       |refine av (i:=7) rfl (λA aV=> ?_) ?_
       |refine av (i:=9) rfl (λA bh=> ?_) ?_
       |exact bm)
    |(with_reducible show bJ _ _ _ _ _ _ _ _ _
      first
       |refine ak [1,6] ?_
       |refine ak [1] ?_
       |refine ak [6] ?_
       |refine ak [9] ?_
       |refine ak [1] ?_
       |refine ak [7] ?_
       |refine aa 8 ?_
       |refine aW (by decide +kernel) (aX ?_) _)
    |fail
   all_goals try clear o
   all_goals try(have dq:=aG.c1)
   all_goals have bB:Bx 122 j X [H I 1,D aN 2 aQ,D bs 2 bv,D bM 2 bT]:=a
   all_goals have bt:aL k w2 j (D bs 2 bv) [z.t,M.t]:=f
   all_goals have bu:cM w2.heap.size ky w2 j (D bM 2 bT) [U z.y,U M.y]:=m
   all_goals clear a f m b p
   all_goals have a:=bB
   all_goals have f:=bt
   all_goals have m:=bu
   all_goals clear bB bt bu
   all_goals
    go_wp2_with fail;rw[a9];have b:=c.gb.du aJ.out (by omega);have c8:w.heap.size+1≠X:=by omega
    have E:=c.bx bP.out c8;have bQ:=c.qC cI.out bN.out (by decide);have aK:=E.c4;have bq:=E.free;obtain⟨bW,bD,B,C⟩:=a.c4;go_wp2_with fail;generalize u:ag (ag (ag (ag j _ _) _ _) _ _) _ _=dy at*;have l:=bp E u;clear u;replace f:=ef (aR k) f l (by decide);replace m:=m.bs l;replace bQ:=bQ.bs l;replace a:=a.bs l;replace E:=l.new;replace b:=b.bs l;clear l;clear aK bW bD B C;have aK:=E.c4;obtain⟨bW,bD,B,C⟩:=a.c4;exact a4 (cl rfl rfl E9 Fa E rfl) rfl ⟨_,rfl,⟨⟨_,_,_,_,_,_,_,rfl,bQ,aL.a f,aP.weaken m aJ.out.size⟩⟩,b⟩
theorem iA {k:Nat}{w:O}{A:Option am}{c:Nat}{q1 q2:Rat}(h:aF k w (D A 2 c) [q1,q2]):∃(g:Nat) (t1 t2:Bool) (b B2 d e:Option am) (m n f i o p j l:Nat) (more:List W),A=U ⟨g,0,none⟩/\Bx 53 w g ([J t1,D b m f,D d o j,J t2,D B2 n i,D e p l]++more)/\Qk k w (af #[J t1,D b m f,D d o j]) q1/\Qk k w (af #[J t2,D B2 n i,D e p l]) q2:=by
 obtain⟨u,ha,s⟩:=h
 match u,ha with
 |[C,F],ha=>
  have q:Qk k w C.agg q1:=ha.2 0 _ _ rfl rfl;have r:Qk k w F.agg q2:=ha.2 1 _ _ rfl rfl;obtain⟨t1,b,d,m,f,o,j,rfl⟩:=q.form;obtain⟨t2,B2,e,n,i,p,l,rfl⟩:=r.form;rcases s.2 with⟨a,_⟩|⟨g,v,a,hb,t,_⟩
  .cases a
  .injection a with a
   exact⟨g,t1,t2,b,B2,d,e,m,n,f,i,o,p,j,l,aS v,a,t,q,r⟩
 |[],ha=>exact absurd ha.1 (by simp)
 |[_],ha=>exact absurd ha.1 (by simp)
 |_::_::_::_,ha=>exact absurd ha.1 (by simp)
theorem Fj {k:Nat}(h:aF k w (D AS 2 cS) [h1,h2])(W:Y (0<h1))(X:Y (0<h2))(aD:k<=1000000):
 aj ae 128 #[af #[H I 1,D AS 2 cS,D AT 2 cT,D AY 2 cY]] w λe n=>e=aw (J true)/\V w n:=by
 obtain⟨Q,aK,aL,ai,B2,ak,al,aE,aG,ay,az,aH,aI,aA,aB,more,rfl,c,q1,f⟩:=iA h;obtain⟨R,B⟩:∃A,Y (E.bU h1.num=A):=⟨_,G rfl⟩;obtain⟨T,C⟩:∃A,Y (E.bU h2.num=A):=⟨_,G rfl⟩;have k1:¬(R<=0):=by have:=Pc.jt h1;rw[B.out]at this;have y:decide (0<h1)=true:=decide_eq_true W.out;rw[y]at this;have:=of_decide_eq_true this;omega
 have k2:¬(T<=0):=by have:=Pc.jt h2;rw[C.out]at this;have y:decide (0<h2)=true:=decide_eq_true X.out;rw[y]at this;have:=of_decide_eq_true this;omega
 clear h;go_enter func128,ntmps128;go_wp2_with fail;generalize m:ah w _=N at*;obtain⟨b,a⟩:=aC m;clear m;revert c q1 f;refine bo b ?_;intro c q1 f;have g:=a.c4;refine wp_loop_rounds 3 ?_;rw[a9];have x:=c.k 0;have c1:=c.cell (i:=0+1) rfl;have c2:=c.cell (i:=0+2) rfl;have v:=a.d4;go_upto_region 4 with fail
 clear v;generalize m:ah N _=an at*;obtain⟨z,d⟩:=aC m;clear m;have au:=a.lt;revert b a c q1 f g;revert z;refine dX ?_;intro b a c q1 f g;have j:=d.c3;clear x c1 c2;go_wp2_with fail
 with_reducible refine(fQ q1.fr (by omega)).mono ?_
 rintro e P ⟨rfl,u2⟩;revert d b a c q1 f g j;revert u2;refine el ?_;intro d b a c q1 f g j;rw[B.out];go_wp2_with fail;rw[a9];have x:=c.k 3;have c1:=c.cell (i:=3+1) rfl;have c2:=c.cell (i:=3+2) rfl;have v:=a.d4;have Z:=d.d3;go_upto_region 4 with fail
 clear v Z;generalize m:ah P _=ao at*;obtain⟨z,l⟩:=aC m;clear m;have av:=a.lt;have aJ:=d.lt;revert d b a c q1 f g j;revert z;refine el ?_;intro d b a c q1 f g j;have s:=l.c3;clear x c1 c2;go_wp2_with fail
 with_reducible refine(fQ f.fr (by omega)).mono ?_
 rintro e aq ⟨rfl,u4⟩;revert l d b a c q1 f g j s;revert u4;refine eG ?_;intro l d b a c q1 f g j s;rw[C.out];go_wp2_with fail;rw[a9];go_wp2_with fail;refine(o9 _).mono ?_;rintro e w5 ⟨ag,ax,rfl,M,ab⟩;clear M;clear c q1 f;revert l d b a g j s;revert ab;refine eR ?_;intro l d b a g j s;go_wp2_with fail;obtain⟨o,p,q,r⟩:=g;have t:=j;have u:=s;revert l d b a o p q r t u;refine bw (V.refl w5).drew ?_;intro l d b a o p q r t u;refine aZ ?_;refine a3 (S:=λn=>V w n/\n.cell? ⟨w.heap.size,0,none⟩=U (H I 1)/\n.cell? ⟨w.heap.size,1,none⟩=U (D (U ⟨Q,0,none⟩) 2 cS)/\n.cell? ⟨w.heap.size,2,none⟩=U (D AT 2 cT)/\n.cell? ⟨w.heap.size,3,none⟩=U (D AY 2 cY)) (by kernel_rfl) ?_ (λF=> ?_)
 .with_reducible exact⟨b,o,p,q,r⟩
 refine aa 0 ?_;refine aa 1 ?_;refine aa 2 ?_;refine aa 3 ?_;refine bZ 4 (λL K=> ?_);go_simp
 (first
   |(go_at_call 85
     with_reducible refine(vF _).mono ?_
     rintro e ar ⟨rfl,u5⟩;revert l d b a o p q r t u;refine bw u5 ?_;intro l d b a o p q r t u;clear u5))
 try go_wp2_with fail
 try clear F
 refine K.out _ _ ?_ (λF=> ?_)
 .with_reducible exact⟨b,o,p,q,r⟩
 clear K L
 try simp only[bc,Act.put]
 refine aa 5 ?_;refine aa 6 ?_;refine aa 7 ?_;refine aa 8 ?_;refine aa 9 ?_;refine aa 10 ?_;refine aa 11 ?_;refine aa 12 ?_;refine aa 13 ?_;refine aa 14 ?_;refine aa 15 ?_;refine aa 16 ?_;refine aa 17 ?_;refine aa 18 ?_;refine aa 19 ?_;refine aa 20 ?_;refine aa 21 ?_;refine aa 22 ?_;refine aa 23 ?_;refine aa 24 ?_;refine aa 25 ?_;refine aa 26 ?_;refine aW (by kernel_rfl) ?_ _;refine aX ?_;go_wp2;go_ret;exact⟨rfl,b⟩
theorem pY {w0 w:O}{A:Option am}{c:Nat}(h:cF w0 w (D A 2 c) [(1,2),(0,1)]):∃g more,A=U ⟨g,0,none⟩/\Bx 130 w g ([H I 1,H I 2,H I 0,H I 1]++more):=by
 obtain⟨e,ha,b⟩:=h
 match e,ha with
 |[f,m],ha=>
  obtain rfl:f=[H I 1,H I 2]:=ha.2 0 _ _ rfl rfl;obtain rfl:m=[H I 0,H I 1]:=ha.2 1 _ _ rfl rfl;rcases b.2 with⟨_,a⟩|⟨g,i,a,hb,d,_⟩
  .cases a
  .injection a with a
   exact⟨g,i.flatten,a,d⟩
 |[],ha=>exact absurd ha.1 (by simp)
 |[_],ha=>exact absurd ha.1 (by simp)
 |_::_::_::_,ha=>exact absurd ha.1 (by simp)
theorem Fk (ha:a<2):aj ae 129 #[af #[H I 1,D AS 2 cS,D AT 2 cT,D AY 2 cY],af #[H I (a:Int),H I ((a:Int)+1)]] w λe z=>e=aw (J true)/\V w z:=by
 obtain rfl|rfl:a=1\/a=0:=by omega
 .skip;show aj ae 129 #[af #[H I 1,D AS 2 cS,D AT 2 cT,D AY 2 cY],af #[H I 1,H I 2]] w _;go_enter func129,ntmps129;go_wp2_with fail;generalize f:ah (ah w _) _=u at*;obtain⟨g,c,d⟩:=br f;clear f;have i:=c.c4;have j:=d.c2;refine(pX _).mono ?_;rintro e w5 ⟨t,c5,rfl,m,q⟩;obtain⟨y,more,rfl,b⟩:=pY m;clear m;revert g c d i j;revert q;refine dH ?_;intro g c d i j
  have l:=b.k 0;have c1:=b.k 1;have c2:=b.k 2;have c3:=b.k 3;go_wp2_with fail;refine wp_loop_rounds 1 ?_;rw[a9];clear l c1 c2 c3;have l:=b.k 0;have c1:=b.k 1;have n:=c.d4;have o:=d.d2;go_wp2_with fail;clear n o;generalize f:ah w5 _=s at*;obtain⟨p,k⟩:=aC f;clear f;have v:=c.lt;have x:=d.lt;revert b g c d i j;revert p;refine dX ?_;intro b g c d i j
  have r:=k.c2;go_ret;exact⟨rfl,g⟩
 .skip;show aj ae 129 #[af #[H I 1,D AS 2 cS,D AT 2 cT,D AY 2 cY],af #[H I 0,H I 1]] w _;go_enter func129,ntmps129;go_wp2_with fail;generalize f:ah (ah w _) _=u at*;obtain⟨g,c,d⟩:=br f;clear f;have i:=c.c4;have j:=d.c2;refine(pX _).mono ?_;rintro e w5 ⟨t,c5,rfl,m,q⟩;obtain⟨y,more,rfl,b⟩:=pY m;clear m;revert g c d i j;revert q;refine dH ?_;intro g c d i j
  have l:=b.k 0;have c1:=b.k 1;have c2:=b.k 2;have c3:=b.k 3;go_wp2_with fail;refine wp_loop_rounds 2 ?_;rw[a9];clear l c1 c2 c3;have l:=b.k 0;have c1:=b.k 1;have n:=c.d4;have o:=d.d2;go_wp2_with fail;clear n o;generalize f:ah w5 _=s at*;obtain⟨p,k⟩:=aC f;clear f;have v:=c.lt;have x:=d.lt;revert b g c d i j;revert p;refine dX ?_;intro b g c d i j
  have r:=k.c2;rw[a9];clear l c1;have c2:=b.k 2;have c3:=b.k 3;have n:=c.d4;have o:=d.d2;have A:=k.d2;go_wp2_with fail;clear n o A;generalize f:ah s _=C at*;obtain⟨p,B⟩:=aC f;clear f;have E:=c.lt;have F:=d.lt;have G:=k.lt;revert k b g c d i j r;revert p;refine el ?_;intro k b g c d i j r
  have K:=B.c2;go_ret;exact⟨rfl,g⟩
def Fl (d:Nat)(y:List Rat)(w:O)(e:aO)(a:O):Prop:= ∃b c,e=aw (aY #[D (U ⟨b,0,none⟩) 1 1,af #[H I 0,H I 0,H I 0,H I 0]])/\Bx 44 a b [c]/\aL d w a c y/\V w a
theorem Fm {k:Nat}(l:aF k w (D AT 2 cT) [t1,t2])(n:cM n0 k w0 w (D AY 2 cY) [U y1,U y2])(ha:a<2):∃gt c s B m f ai j g e c5,AT=U ⟨gt,0,none⟩/\AY=U ⟨c,0,none⟩/\gt<w.heap.size/\c<w.heap.size/\
 w.cell? ⟨gt,a*3,none⟩=U (J s)/\w.cell? ⟨gt,a*3+1,none⟩=U (D B m f)/\w.cell? ⟨gt,a*3+2,none⟩=U (D ai j g)/\Qk k w (af #[J s,D B m f,D ai j g]) ([t1,t2].getD a 0)/\w.cell? ⟨c,a,none⟩=U (D e ([y1,y2].getD a []).length c5)/\aF k w (D e ([y1,y2].getD a []).length c5) ([y1,y2].getD a []):=by
 obtain⟨gt,K,L,u,B2,v,x,E,F,y,z,G,H,A,C,mt,rfl,b,o,p⟩:=iA l;obtain⟨c,r,t,c1,c2,I,rfl,d,q1,q⟩:=vG n;obtain rfl|rfl:a=1\/a=0:=by omega
 .exact⟨gt,c,_,_,_,_,_,_,_,_,_,rfl,rfl,b.lt,d.lt,b.cell (i:=3) rfl,b.cell (i:=4) rfl,b.cell (i:=5) rfl,p,d.cell (i:=1) rfl,q⟩
 .exact⟨gt,c,_,_,_,_,_,_,_,_,_,rfl,rfl,b.lt,d.lt,b.cell (i:=0) rfl,b.cell (i:=1) rfl,b.cell (i:=2) rfl,o,d.cell (i:=0) rfl,q1⟩
theorem Fo {q:Pb}{kp k:Nat}(aK:c7 kp w [D TA q.code.length aH,D TB q.os.length cB,H I q.ar,H I q.par,al q.nm,D SC q.c.length cc,D SA q.a.length ca,D SB q.b.length cb,D SE q.e.length ce,D PA q.p.length cp,H I q.bits] q)(bt:Y (eD q))(aL:Y (q.right=true))(T:aF k w (D AS 2 cS) [h1,h2])(bu:Y (0<h1))(bv:Y (0<h2))(aE:aF k w (D AT 2 cT) [t1,t2])(aG:cM n0 k w0 w (D AY 2 cY) [U y1,U y2])(aI:Y ((([y1,y2].getD a []).length:Int)=q.ar))(ha:a<2)(bs:k<=1000000):
 aj ae 91 #[af #[D TA q.code.length aH,D TB q.os.length cB,H I q.ar,H I q.par,al q.nm,D SC q.c.length cc,D SA q.a.length ca,D SB q.b.length cb,D SE q.e.length ce,D PA q.p.length cp,H I q.bits],af #[H I 1,D AS 2 cS,D AT 2 cT,D AY 2 cY],af #[H I (a:Int),H I ((a:Int)+1)]] w (Fl k ([y1,y2].getD a []) w):=by
 have aS:=G aK;have aT:=G T;obtain⟨gt,R,aO,B,aM,az,ai,aN,aB,aq,c5,rfl,rfl,ab,br,ay,d1,d2,qt,d3,g⟩:=Fm aE aG ha;generalize[t1,t2].getD a 0=cH at*;generalize[y1,y2].getD a []=E at*;obtain⟨ci,cK,cL,bF,B2,bH,bI,cn,co,cd,cf,cq,cr,cg,ch,more,rfl,bz,_,_⟩:=iA T;have aU:=G g.fs.lq;have aY:Y (Pq.sc 1 E=E):=G (by unfold Pq.sc;simp);have Q:Y (∀t,V w t->t.cell? ⟨gt,a*3,none⟩=U (J aO)/\t.cell? ⟨gt,a*3+1,none⟩=U (D B aM az)/\t.cell? ⟨gt,a*3+2,none⟩=U (D ai aN aB)/\t.cell? ⟨R,a,none⟩=U (D aq E.length c5)):=G λt X=>⟨(X.cell (p:=⟨gt,a*3,none⟩) ab).trans ay,(X.cell (p:=⟨gt,a*3+1,none⟩) ab).trans d1,(X.cell (p:=⟨gt,a*3+2,none⟩) ab).trans d2,(X.cell (p:=⟨R,a,none⟩) br).trans d3⟩
 have aQ:Y (2<=cS):=G (by
  obtain⟨_,_,_,K,h2,_⟩:=aA.sq T;cases K;exact h2)
 have cm:E.length<=6:=by
  have cl:=(io (kB aL.out).1).1;have ck:=aI.out;omega
 clear aK aE aG T bz ay d1 d2 d3;go_enter func91,ntmps91;go_upto_region 1 with fail
 generalize l:ah (ah (ah (ah w _) _) _) _=a7 at*;obtain⟨e,f,c,d,b⟩:=dn l;clear l;replace qt:=qt.up e;replace g:=g.up e;have m:=d.c2;have s:=b.c4;have v:=b.free;have Z:=d.d2;have an:=b.d4;have ao:=b.fa;go_upto_region 2 with fail
 clear Z an ao;generalize l:ah a7 _=bP at*;obtain⟨A,u⟩:=aC l;clear l;have bV:=f.lt;have bY:=c.lt;have b1:=d.lt;have cD:=b.lt;revert e f c d b qt g m s;refine bE A ?_;intro e f c d b qt g m s;replace v:=b.free;clear A;go_wp2_with(with_reducible show wpList _ _ _ _ _ _;refine ex (o:=⟨_,Op.load 49 _,_,_,_,_⟩) _ rfl (by kernel_rfl) rfl ip iw f rfl rfl ?_)
 with_reducible refine(mZ (aS.out.up e) bt).mono ?_
 rintro K bQ ⟨rfl,u2⟩;revert u e f c d b qt g m s;refine bw u2 ?_;intro u e f c d b qt g m s;replace v:=b.free;clear u2;rw[aL.out];have x:=c.k 0;have F:=c.k 1;have y:=c.k 2;have z:=c.k 3;go_wp2_with fail
 with_reducible refine(Fj (aT.out.up e) bu bv bs).mono ?_
 rintro K bR ⟨rfl,u3⟩;clear x F y z;revert u e f c d b qt g;refine b9 u3 ?_;intro u e f c d b qt g;replace m:=d.c2;replace s:=b.c4;replace v:=b.free;clear u3;have x:=c.k 0;have F:=c.k 1;have y:=c.k 2;have z:=c.k 3;go_wp2_with fail
 with_reducible refine(Fk ha).mono ?_
 rintro K aw ⟨rfl,u4⟩;clear x F y z;revert u e f c d b qt g;refine b9 u4 ?_;intro u e f c d b qt g;replace m:=d.c2;replace s:=b.c4;replace v:=b.free;clear u4;have cy:Int.tdiv (a:Int) 1=(a:Int):=Int.tdiv_one _;have kw:IntKind.i64.wrap (a:Int)=(a:Int):=IntWalk.i64_in _ (by omega);have cv:(0:Int)<=(a:Int):=by omega
 have cw:(a:Int)<2:=by omega
 have cx:((a:Int)).toNat=a:=by omega
 go_wp2_with fail;have x:=c.k 0;have y:=c.k 2;have z:=c.k 3;revert u e f c d b qt g x y z;refine bC (V.refl aw).drew ?_;intro u e f c d b qt g x y z;replace m:=d.c2;replace s:=b.c4;replace v:=b.free;refine aZ ?_;refine a3 (S:=λt=>V w t/\Cz t (w.heap.size+1) 0 [H I 1]/\Cz t (w.heap.size+1) 2 [D (U ⟨gt,0,none⟩) 2 cT,D (U ⟨R,0,none⟩) 2 cY]/\Cz t (w.heap.size+1+1) 0 [H I (a:Int),H I ((a:Int)+1)]/\(t.cell? ⟨gt,a*3,none⟩=U (J aO)/\t.cell? ⟨gt,a*3+1,none⟩=U (D B aM az)/\t.cell? ⟨gt,a*3+2,none⟩=U (D ai aN aB)/\t.cell? ⟨R,a,none⟩=U (D aq E.length c5))) (by kernel_rfl) (by exact⟨e,c.cy 0 1,c.cy 2 2,d.cz,Q.out _ e⟩) (λM=> ?_);generalize aw.drew=L at*;refine aa 0 ?_;refine aa 1 ?_;refine aa 2 ?_;refine aa 3 ?_;refine aa 4 ?_;refine aa 5 ?_;refine aa 6 ?_;refine aa 7 ?_;refine aa 8 ?_;refine aa 9 ?_;refine aa 10 ?_;refine aa 11 ?_;refine aa 12 ?_;refine aa 13 ?_;refine aa 14 ?_;refine aa 15 ?_;refine aa 16 ?_;refine aa 17 ?_
 repeat' first
  |(have N:=aV;clear aV
    (try clear M)
    go_simp;have bX:=f.lt;have b0:=c.lt;have b4:=d.lt;have cF:=b.lt;have b6:=u.lt;have cI:=e.size;have bx:=g.ne;generalize aJ:L.heap.size=cj at*;generalize l:ah L _=L at*;obtain⟨A,C⟩:=b3 l aJ;clear l aJ;revert u e f c d b qt g x y z;refine bC A ?_;intro u e f c d b qt g x y z
    replace m:=d.c2;replace v:=b.free;replace s:=b.c4;clear A;refine ax N (by exact⟨e,c.cy 0 1,c.cy 2 2,d.cz,Q.out _ e⟩) (λM=> ?_);clear N aD)
  |(have N:=bh;clear bh
    (try clear M)
    obtain⟨bj,bk,bl⟩:=C.c3;have bn:=C.free 0;have bo:=C.free 1;have bq:=C.free 2;go_simp;clear bj bk bl bn bo bq;generalize l:ag (ag (ag L _ _) _ _) _ _=L at*;have j:=dh C l;clear l;replace qt:=qt.kw j.kw;replace g:=g.eF j bx;replace f:=f.bs j;replace c:=c.bs j;replace d:=d.bs j;replace b:=b.bs j;replace u:=u.bs j;replace C:=j.new;replace e:=e.bs j;clear j;clear x y z;have x:=c.k 0;have y:=c.k 2;have z:=c.k 3;replace m:=d.c2;replace v:=b.free;replace s:=b.c4;refine ax N (by exact⟨e,c.cy 0 1,c.cy 2 2,d.cz,Q.out _ e⟩) (λM=> ?_);clear N aD)
  |(with_reducible show b5 _ _ _ _ _ _ _ _ _ _
    first
     |refine av (i:=18) rfl (λaD aV=> ?_) ?_
     |refine av (i:=19) rfl (λaD bh=> ?_) ?_
     |exact bm)
  |(with_reducible show bJ _ _ _ _ _ _ _ _ _
    first
     |refine ak [18] ?_
     |refine ak [19] ?_
     |refine aa 20 ?_
     |refine aW (by decide +kernel) (aX ?_) _)
  |fail
 all_goals try clear M
 all_goals have cJ:=C.c3
 clear Q;have m:=d.c2;have s:=b.c4;have v:=b.free;have cu:((E.length:Int) !=q.ar)=false:=by rw[aI.out];simp
 have bd:=f.k 2;go_wp2_with fail
 with_reducible refine(fd (n:=1) (by omega) _).mono ?_
 rintro K a8 ⟨a5,rfl,o,u81⟩;clear bd;revert g f c d b e;refine bO u81 ?_;intro g f c d b e;replace m:=d.c2;replace s:=b.c4;replace v:=b.free;clear u81;have ar:Y (Fr a8 a5 ((1:Int):Rat) 2):=G (o.fr (dR (by omega)));obtain⟨bK,au⟩:∃a1,Y ((((1:Int):Int):Rat)=a1):=⟨_,G rfl⟩;rw[au.out]at o ar;obtain⟨bT,bU,rfl,o,W⟩:=o;obtain⟨bB,no,b7,rfl⟩:=o.shape;obtain⟨bD,cC,b8,rfl⟩:=W.shape;have a2:=e;go_wp2_with fail
 with_reducible refine(he ar.out g.fs.sq (by omega) (by omega) (by omega)).mono ?_
 rintro K ba ⟨bL,rfl,r,u82⟩;revert g f c d b e m s o W;refine bw u82 ?_;intro g f c d b e m s o W;replace v:=b.free;clear u82;rw[<-au.out,show(((1:Int)):Rat)=1 from rfl,aY.out]at r;replace r:=r.re aU.out;clear o W g;replace r:=r.weaken a2;obtain⟨aP,bi,rfl⟩:=r.form;have cz:IntKind.i64.wrap ((a:Int)+1-1)=(a:Int):=by rw[Int.add_sub_cancel];exact kw
 have ct:(a:Int)<=(cS:Int):=by have:=aQ.out;omega
 have F:=c.k 1;have bf:=cA F;have Z:=d.d2;have an:=b.d4;have ao:=b.fa;go_wp2_with fail;clear bf Z an ao;generalize l:ah ba _=bb at*;obtain⟨A,P⟩:=aC l;clear l;have bW:=f.lt;have bZ:=c.lt;have b2:=d.lt;have cE:=b.lt;clear F;revert f c d b e r;refine bO A ?_;intro f c d b e r;replace m:=d.c2;replace s:=b.c4;replace v:=b.free;clear A;have bA:=P.c1;refine wp_loop_rounds 1 ?_;rw[a9];go_wp2_with fail;have cG:(D aP E.length bi).ownBlock≠U (w.heap.size+1+1+1):=eu r b (by decide);generalize l:ag (ag (ag (ag bb _ _) _ _) _ _) _ _=bS at*;have j:=bp b l;clear l;replace r:=ef (aR _) r j (by decide);replace f:=f.bs j;replace c:=c.bs j;replace d:=d.bs j;replace P:=P.bs j;replace b:=j.new;replace e:=e.bs j;clear j;replace m:=d.c2;replace s:=b.c4;replace bA:=P.c1;exact a4 (fl rfl rfl bM bN b rfl) rfl ⟨_,_,rfl,P,r,e⟩
theorem vH (w:O):(ct 302).run ae w= .ok true w:=by kernel_rfl
theorem vI (w:O):(ci 302).run ae w= .ok 5 w:=by kernel_rfl
def pZ (m n:Nat)(w:O)(e:aO)(b:O):Prop:= ∃(o:Bool) (c ai f d:Option am) (a i g l k j:Nat),e=aw (af #[J o,D c a i,D ai g l,D f m k,D d n j])/\Qk 2 b (af #[J o,D c a i,D ai g l]) 0/\aL 2 w b (D f m k) (bA m 0)/\aL 2 w b (D d n j) (bA n 0)/\V w b
def Fp (n:Nat)(w:O)(e:aO)(c:O):Prop:= ∃a b,e=aw (D a n b)/\aL 2 w c (D a n b) (bA n 0)/\V w c
theorem vJ (g:n<=300)(w:O):aj ae 49 #[H I n] w (Fp n w):=(mU g w).mono λi k ⟨j,b,a,f⟩=>by
 obtain⟨c,d,e⟩:=a.form;subst e;rw[List.length_replicate]at b a;exact⟨c,d,b,a,f⟩
theorem vL (t:m<=300)(u:n<=300)(w:O):aj ae 222 #[H I (m:Int),H I (n:Int)] w (pZ m n w):=by
 go_enter func222,ntmps222;go_wp2_with fail;generalize g:ah w _=B at*;obtain⟨b,a⟩:=aC g;clear g;have e:=a.c5;have j:=a.free
 with_reducible refine(g9 _).mono ?_
 rintro k C ⟨A,rfl,o,u1⟩;revert b a e;refine bo u1 ?_;intro b a e;replace j:=a.free;clear u1;obtain⟨z,i⟩:∃l,Y ((0:Rat)=l):=⟨_,G rfl⟩;rw[i.out]at o;obtain⟨F,J,rfl,o,c⟩:=o;obtain⟨v,no,K,rfl⟩:=o.shape;obtain⟨x,N,L,rfl⟩:=c.shape;have q:=G b;go_wp2_with fail
 with_reducible refine(vJ t _).mono ?_
 rintro k D ⟨y,cy,rfl,f,u2⟩;revert b a e o c;refine b8 u2 ?_;intro b a e o c;replace j:=a.free;clear u2;have r:=G b;go_wp2_with fail
 with_reducible refine(vJ u _).mono ?_
 rintro k s ⟨Ap,M,rfl,p,u3⟩;revert f b a e o c;refine bO u3 ?_;intro f b a e o c;replace j:=a.free;clear u3;replace f:=f.weaken q.out;replace p:=p.weaken r.out;go_wp2_with fail;generalize g:ag (ag (ag (ag (ag s _ _) _ _) _ _) _ _) _ _=E at*;have d:=e8 a g;clear g;replace o:=o.kw d.kw;replace c:=c.kw d.kw;replace f:=ef (aR _) f d (by decide);replace p:=ef (aR _) p d (by decide);replace a:=d.new;replace b:=b.bs d;clear d;replace e:=a.c5;exact a4 (cl rfl rfl vH vI a rfl) rfl ⟨_,_,_,_,_,_,_,_,_,_,_,rfl,by rw[i.out];exact⟨eb o c,by rw[<-i.out];exact kj⟩,f,p,b⟩
def Fs (K g:Nat)(x:Rat)(w:O)(b:O):Prop:= ∃(i:Bool) (c ai:Option am) (a e d f:Nat),Bx 53 b g [J i,D c a e,D ai d f]/\Qk K b (af #[J i,D c a e,D ai d f]) x/\Gk g w b
theorem Ft {k:Nat}{x y:Rat}(hb:Bx 316 w gb [D TA 1 aH,D TB 1 cB,H I 1,H I 0,D DA 1 p0,D (U ⟨gX,0,none⟩) 1 1,J gs,D GA hG p4,D GD p5 p6,D GY 1 iB,D GP 0 jz])(v:Bx 53 w gX [J s1,D A1 n1 c1,D D1 m1 d1])(l:Fr w (af #[J s1,D A1 n1 c1,D D1 m1 d1]) x k)(m:Fr w (af #[J s2,D A2 n2 c2,D D2 m2 d2]) y k)(f:Y (E.Lq (x+y) K))(aG:k<=1000000):
 aj ae 223 #[az (U ⟨gb,0,none⟩),H I 0,af #[J s2,D A2 n2 c2,D D2 m2 d2]] w λe A=>e=aw (aY #[])/\Fs K gX (x+y) w A:=by
 obtain⟨P,F⟩:∃P,Y (x+y=P):=⟨_,G rfl⟩;rw[F.out]at f|-;have aE:=hb.lt;have aF:=v.lt;have aI:gb≠gX:=λe=>by(subst e;exact absurd (gh hb v) (by decide))
 have j:Gk gX w w:=⟨Gb.refl _ _⟩;go_enter func223,ntmps223;go_wp2_with fail;generalize z:ah w _=L at*;obtain⟨c,b⟩:=aC z;clear z;revert hb v l m j;refine b8 c ?_;intro hb v l m j;have o:=b.c3;obtain⟨al,aJ,R⟩:=fk (n:=0) (w:=w) (bn _);have aD:=hb.lt;clear o;replace c:=R.trans c;have o:=b.c3;have d:=hb;have a:=v;clear hb v;have q:=d.k 5;have s:=a.k 0;have t:=a.k 1;have u:=a.k 2;revert b l m j c o d a q s t u;refine au (V.refl L).drew ?_;intro b l m j c o d a q s t u;refine aZ ?_;refine a3 (S:=λA=>V al A/\Cz A gb 5 [D (U ⟨gX,0,none⟩) 1 1]/\Cz A (w.heap.size) 0 [J s2,D A2 n2 c2,D D2 m2 d2]) (by kernel_rfl) (by exact⟨c,d.cy 5 1,b.cz⟩) (λp=> ?_);generalize L.drew=B at*;refine aa 0 ?_;refine aa 1 ?_;refine aa 2 ?_;refine aa 3 ?_;refine aa 4 ?_;refine aa 5 ?_;refine aa 6 ?_;refine aa 7 ?_;refine aa 8 ?_;refine aa 9 ?_;refine aa 10 ?_;refine aa 12 ?_
 repeat' first
  |(have f:=M;clear M
    (try clear p)
    go_simp;refine ax f (by exact⟨c,d.cy 5 1,b.cz⟩) (λp=> ?_);clear f K)
  |(have f:=N;clear N
    (try clear p)
    go_simp;go_at_call 61
    with_reducible refine(gc l m (by omega) (by omega)).mono ?_
    rintro e B ⟨aq,rfl,r,C⟩;revert b l m j c d a q;refine b9 C ?_;intro b l m j c d a q
    try(replace rd:=rd.up C)
    clear s t u;have s:=a.k 0;have t:=a.k 1;have u:=a.k 2;clear o;have o:=b.c3;clear C;rw[F.out]at r;obtain⟨ar,ay,rfl,r,rd⟩:=r;obtain⟨an,aK,aA,rfl⟩:=r.shape;obtain⟨ao,aL,aB,rfl⟩:=rd.shape
    try go_wp2_with fail
    refine ax f (by exact⟨c,d.cy 5 1,b.cz⟩) (λp=> ?_);clear f K)
  |(have f:=Q;clear Q
    (try clear p)
    have T:=a.k 0;have W:=a.k 1;have X:=a.k 2;have Z:=a.free 0;have ab:=a.free 1;have ai:=a.free 2;go_simp;clear T W X Z ab ai;generalize z:ag (ag (ag B _ _) _ _) _ _=B at*;have g:=dh a z;clear z;replace l:=l.kw g.kw;replace m:=m.kw g.kw;replace j:=j.bs g
    try(replace r:=r.kw g.kw)
    try(replace rd:=rd.kw g.kw)
    replace d:=d.bs g;replace b:=b.bs g;replace a:=g.new;replace c:=c.bs g;clear g;clear q;have q:=d.k 5;clear s t u;have s:=a.k 0;have t:=a.k 1;have u:=a.k 2;clear o;have o:=b.c3;refine ax f (by exact⟨c,d.cy 5 1,b.cz⟩) (λp=> ?_);clear f K)
  |(with_reducible show b5 _ _ _ _ _ _ _ _ _ _
    first
     |refine av (i:=11) rfl (λK M=> ?_) ?_
     |refine av (i:=13) rfl (λK N=> ?_) ?_
     |refine av (i:=15) rfl (λK Q=> ?_) ?_
     |exact bm)
  |(with_reducible show bJ _ _ _ _ _ _ _ _ _
    first
     |refine ak [13] ?_
     |refine ak [15] ?_
     |refine ak [11] ?_
     |refine aa 14 ?_
     |refine aW (by decide +kernel) (aX ?_) _)
  |fail
 all_goals try clear p
 go_wp2
 go_end0
 exact⟨rfl,_,_,_,_,_,_,_,a,⟨eb r rd,f.out⟩,j⟩
def Fu (K g:Nat)(fs:List W)(x:Rat)(w:O)(b:O):Prop:= ∃(i:Bool) (c ai:Option am) (a e d f:Nat),Bx 53 b g ([J i,D c a e,D ai d f]++fs)/\Qk K b (af #[J i,D c a e,D ai d f]) x/\Gk g w b
theorem Fv {gy:Nat}{n:ay}{fs:List W}{x:Rat}(hb:Bx 316 w gb [D TA 1 aH,D TB 1 cB,H I 1,H I 0,D DA 1 p0,D (U ⟨gX,0,none⟩) 1 1,J gs,D GA hG p4,D GD p5 p6,D (U ⟨gy,0,none⟩) 1 iB,D GP 0 jz])(bd:Sn dc w (D TA 1 aH) [⟨3,0,0,n⟩])(a2:Bx 53 w gX [J s1,D A1 n1 c1,D D1 m1 d1])(bp:Qk K w (af #[J s1,D A1 n1 c1,D D1 m1 d1]) x)
 (aM:Bx 53 w gy ([J s2,D A2 n2 c2,D D2 m2 d2]++fs))(M:Qk 2 w (af #[J s2,D A2 n2 c2,D D2 m2 d2]) 0)(h0:Y (x≠0))(m:K<=1000000):
 aj ae 224 #[az (U ⟨gb,0,none⟩),H I 0] w λe g=>e=aw (aY #[])/\Fu K gy fs x w g:=by
 obtain⟨q,o,ci,rfl,T,⟨ch,b6,rfl,bo,bj,_⟩,P⟩:=bd.at_ (cV 0) (by decide) (k:=0) (by simp);obtain⟨aU,q1,a5,rfl⟩:=bo.shape;obtain⟨a1,a4,a7,rfl⟩:=bj.shape;have al:Y (∀g,V w g->g.cell? ⟨q,o,none⟩=U (H I 3)/\g.cell? ⟨q,o+1,none⟩=U (H I 0)/\g.cell? ⟨q,o+2,none⟩=U (H I 0)/\g.cell? ⟨q,o+3,none⟩=U (J n.1)/\g.cell? ⟨q,o+4,none⟩=U (D aU q1 a5)/\g.cell? ⟨q,o+5,none⟩=U (D a1 a4 a7)):=G λg X=>⟨(X.cell (p:=⟨q,o,none⟩) T).trans (P 0 _ rfl),(X.cell (p:=⟨q,o+1,none⟩) T).trans (P 1 _ rfl),(X.cell (p:=⟨q,o+2,none⟩) T).trans (P 2 _ rfl),(X.cell (p:=⟨q,o+3,none⟩) T).trans (P 3 _ rfl),(X.cell (p:=⟨q,o+4,none⟩) T).trans (P 4 _ rfl),(X.cell (p:=⟨q,o+5,none⟩) T).trans (P 5 _ rfl)⟩
 have bu:=G hb;have bv:=G a2;have bz:=G aM;have ba:=G bp;have bx:=G M;obtain⟨bR,bb⟩:∃bU,Y (E.bU x.num=bU):=⟨_,G rfl⟩
 have cg:(bR==0)=false:=by
  rw[<-bb.out,pe,decide_eq_false h0.out]
 have cb:=hb.lt;have cc:=a2.lt;have cd:=aM.lt;have ce:gb≠gy:=λe=>by(subst e;exact absurd (gh hb aM) (by decide))
 have hw:o+0*6+0=o:=by omega
 clear P bo bj a2 aM bp M bd;have a:=V.refl w;go_enter func224,ntmps224;go_upto_region 0 with fail
 go_cut [4,5] (λbP bQ a9=> ∃aB aC:Nat,bP=az (U ⟨aB,0,none⟩)/\bQ=az (U ⟨aC,0,none⟩)/\w.heap.size<=aB/\w.heap.size<=aC/\Bx 114 a9 aB [H I 3,H I 0,H I 0,J n.1,D aU q1 a5,D a1 a4 a7]/\Bx 53 a9 aC [J s1,D A1 n1 c1,D D1 m1 d1]/\V w a9)
 case first=>
  have b:=hb;have d:=bv.out;clear hb;have z:=b.k 0;have A:=b.k 5;have B:=d.k 0;have C:=d.k 1;have F:=d.k 2;revert a b d z A B C F;refine b9 (V.refl w).drew ?_;intro a b d z A B C F
  refine aZ ?_;refine a3 (S:=λg=>V w g/\Cz g gb 0 [D (U ⟨q,o,none⟩) 1 aH]/\Cz g gb 5 [D (U ⟨gX,0,none⟩) 1 1]/\Cz g gX 0 [J s1,D A1 n1 c1,D D1 m1 d1]/\(g.cell? ⟨q,o,none⟩=U (H I 3)/\g.cell? ⟨q,o+1,none⟩=U (H I 0)/\g.cell? ⟨q,o+2,none⟩=U (H I 0)/\g.cell? ⟨q,o+3,none⟩=U (J n.1)/\g.cell? ⟨q,o+4,none⟩=U (D aU q1 a5)/\g.cell? ⟨q,o+5,none⟩=U (D a1 a4 a7))) (by kernel_rfl) (by exact⟨a,b.cy 0 1,b.cy 5 1,d.cz,al.out _ a⟩) (λs=> ?_);generalize w.drew=t at*;refine aa 0 ?_;refine aa 1 ?_;refine aa 2 ?_;refine aa 3 ?_;refine aa 4 ?_;refine aa 5 ?_;refine aa 6 ?_;refine aa 7 ?_;refine aa 8 ?_;refine aa 9 ?_;refine aa 10 ?_;refine aa 11 ?_;refine aa 12 ?_;refine aa 13 ?_;refine aa 14 ?_
  repeat' first
   |(have m:=aD;clear aD
     (try clear s)
     go_simp;have b0:=b.lt;have b2:=d.lt;have bS:=a.size
     try(have bs:=f.lt)
     generalize aE:t.heap.size=bM at*;generalize u:ah t _=t at*;obtain⟨Q,c⟩:=b3 u aE;clear u aE;revert a b d z A;refine b8 Q ?_;intro a b d z A
     try(replace f:=f.up Q)
     clear B C F;have B:=d.k 0;have C:=d.k 1;have F:=d.k 2;clear Q;refine ax m (by exact⟨a,b.cy 0 1,b.cy 5 1,d.cz,al.out _ a⟩) (λs=> ?_);clear m K)
   |(have m:=bh;clear bh
     (try clear s)
     go_simp;have b1:=b.lt;have b4:=d.lt;have bT:=a.size
     try(have br:=c.lt)
     generalize aE:t.heap.size=bN at*;generalize u:ah t _=t at*;obtain⟨Q,f⟩:=b3 u aE;clear u aE;revert a b d z A;refine b8 Q ?_;intro a b d z A
     try(replace c:=c.up Q)
     clear B C F;have B:=d.k 0;have C:=d.k 1;have F:=d.k 2;clear Q;refine ax m (by exact⟨a,b.cy 0 1,b.cy 5 1,d.cz,al.out _ a⟩) (λs=> ?_);clear m K)
   |(have m:=aV;clear aV
     (try clear s)
     obtain⟨an,ao,aq,bF,bG,bH⟩:=c.c6;have ar:=c.free 0;have au:=c.free 1;have aA:=c.free 2;have bI:=c.free 3;have bK:=c.free 4;have bL:=c.free 5;go_simp;clear an ao aq bF bG bH ar au aA bI bK bL;generalize u:ag (ag (ag (ag (ag (ag t _ _) _ _) _ _) _ _) _ _) _ _=t at*;have j:=zo c u;clear u;replace b:=b.bs j;replace d:=d.bs j;replace f:=f.bs j (by first|omega|(have:=bs;omega)|(have:=br;omega));replace c:=j.new;replace a:=a.bs j;clear j;clear z A;have z:=b.k 0;have A:=b.k 5;clear B C F;have B:=d.k 0;have C:=d.k 1;have F:=d.k 2;refine ax m (by exact⟨a,b.cy 0 1,b.cy 5 1,d.cz,al.out _ a⟩) (λs=> ?_);clear m K)
   |(have m:=bi;clear bi
     (try clear s)
     obtain⟨an,ao,aq⟩:=f.c3;have ar:=f.free 0;have au:=f.free 1;have aA:=f.free 2;go_simp;clear an ao aq ar au aA;generalize u:ag (ag (ag t _ _) _ _) _ _=t at*;have j:=dh f u;clear u;replace b:=b.bs j;replace d:=d.bs j;replace c:=c.bs j (by first|omega|(have:=br;omega)|(have:=bs;omega));replace f:=j.new;replace a:=a.bs j;clear j;clear z A;have z:=b.k 0;have A:=b.k 5;clear B C F;have B:=d.k 0;have C:=d.k 1;have F:=d.k 2;refine ax m (by exact⟨a,b.cy 0 1,b.cy 5 1,d.cz,al.out _ a⟩) (λs=> ?_);clear m K)
   |(with_reducible show b5 _ _ _ _ _ _ _ _ _ _
     first
      |refine av (i:=15) rfl (λK aD=> ?_) ?_
      |refine av (i:=16) rfl (λK bh=> ?_) ?_
      |refine av (i:=17) rfl (λK aV=> ?_) ?_
      |refine av (i:=18) rfl (λK bi=> ?_) ?_
      |exact bm)
   |(with_reducible show bJ _ _ _ _ _ _ _ _ _
     first
      |refine ak [15,16] ?_
      |refine ak [15] ?_
      |refine ak [16] ?_
      |refine ak [17] ?_
      |refine ak [18] ?_
      |refine aW (by decide +kernel) (aX ?_) _)
   |fail
  all_goals try clear s
  all_goals obtain⟨aP,v,aQ,aR,aS,aT⟩:=c.c6
  all_goals have y:=f.c3
  all_goals
   have bk:=bS;have bl:=bT;go_wp2_with fail
   go_meet
   exact⟨bM,bN,rfl,rfl,bk,bl,c,f,a⟩
 case rest=>
  obtain⟨aB,aC,rfl,rfl,b7,ca,c,f,aI⟩:=hcut;have L:=ba.out.up aI;have bW:=G aI;clear a;have a:=aI;clear aI hb;have bk:=c.lt;have bl:=f.lt;obtain⟨aP,v,aQ,aR,aS,aT⟩:=c.c6;have y:=f.c3;go_wp2_with fail
  with_reducible refine(fQ L.fr (by omega)).mono ?_
  rintro e aJ ⟨rfl,u71⟩;revert c f L a aP v aQ aR aS aT y;refine bC u71 ?_;intro c f L a aP v aQ aR aS aT y;clear u71
  rw[bb.out];go_wp2_with fail;have l:=bz.out.up a;have b:=bu.out.up a;have M:=bx.out.up a;have N:Gk gy w aJ:=Gk.up ⟨Gb.refl _ _⟩ a;obtain⟨bV,cf,bA⟩:=fk (n:=0) (w:=w) (bn _);replace a:=bA.trans a;clear aP v aQ aR aS aT y;have y:=f.c3;have v:=c.k 1;have R:=b.k 9;have Z:=l.k 0;have ab:=l.k 1;have ai:=l.k 2;revert c f L l b M N a y v;refine bw (V.refl aJ).drew ?_;intro c f L l b M N a y v;revert R Z ab ai;refine bf (V.refl aJ).drew ?_;intro R Z ab ai
  refine aZ ?_;refine a3 (S:=λg=>V bV g/\Cz g aB 1 [H I 0]/\Cz g aC 0 [J s1,D A1 n1 c1,D D1 m1 d1]/\Cz g gb 9 [D (U ⟨gy,0,none⟩) 1 iB]) (by kernel_rfl) (by exact⟨a,c.cy 1 1,f.cz,b.cy 9 1⟩) (λs=> ?_);generalize aJ.drew=t at*;refine aa 0 ?_;refine aa 1 ?_;refine aa 2 ?_;refine aa 3 ?_;refine aa 4 ?_;refine aa 5 ?_;refine aa 6 ?_;refine aa 7 ?_;refine aa 8 ?_;refine aa 9 ?_;refine aa 10 ?_;refine aa 11 ?_;refine aa 12 ?_;refine aa 13 ?_;refine aa 14 ?_;refine aa 16 ?_
  repeat' first
   |(have m:=aD;clear aD
     (try clear s)
     go_simp;refine ax m (by exact⟨a,c.cy 1 1,f.cz,b.cy 9 1⟩) (λs=> ?_);clear m K)
   |(have m:=aV;clear aV
     (try clear s)
     go_simp;go_at_call 61
     with_reducible refine(gc M.fr L.fr (by omega) (by omega)).mono ?_
     rintro e t ⟨bX,rfl,r,a8⟩;revert c f L l b M N a v;refine bE a8 ?_;intro c f L l b M N a v
     try(replace rd:=rd.up a8)
     clear y;have y:=f.c3;clear R;have R:=b.k 9;clear Z ab ai;have Z:=l.k 0;have ab:=l.k 1;have ai:=l.k 2;clear a8;rw[Rat.zero_add]at r;obtain⟨bY,bZ,rfl,r,rd⟩:=r;obtain⟨aF,aN,aK,rfl⟩:=r.shape;obtain⟨aG,aO,aL,rfl⟩:=rd.shape
     try go_wp2_with fail
     refine ax m (by exact⟨a,c.cy 1 1,f.cz,b.cy 9 1⟩) (λs=> ?_);clear m K)
   |(have m:=bq;clear bq
     (try clear s)
     have an:=l.k 0;have ao:=l.k 1;have aq:=l.k 2;have ar:=l.free 0;have au:=l.free 1;have aA:=l.free 2;go_simp;clear an ao aq ar au aA;have j:Bs 53 gy t (((t.setCell ⟨gy,0,none⟩ (J (E.aB x.num))).setCell ⟨gy,1,none⟩ (D aF aN aK)).setCell ⟨gy,2,none⟩ (D aG aO aL)) _ _:=dK [J (E.aB x.num),D aF aN aK,D aG aO aL] 0 l rfl (by simp);replace c:=c.bs j (by omega);replace f:=f.bs j (by omega);replace b:=b.bs j (by omega);replace a:=a.bs j (by omega);replace N:=N.bs j;replace r:=r.kw j.kw;replace rd:=rd.kw j.kw;have bt:Bx 53 _ gy ([J (E.aB x.num),D aF aN aK,D aG aO aL]++fs):=j.new;clear l j;have l:=bt;clear bt;generalize(((t.setCell ⟨gy,0,none⟩ (J (E.aB x.num))).setCell ⟨gy,1,none⟩ (D aF aN aK)).setCell ⟨gy,2,none⟩ (D aG aO aL))=bD at*;obtain⟨t,bO⟩:∃bB,bB=bD:=⟨_,rfl⟩;subst bO;clear v;have v:=c.k 1;clear y;have y:=f.c3;clear R;have R:=b.k 9;clear Z ab ai;have Z:=l.k 0;have ab:=l.k 1;have ai:=l.k 2;refine ax m (by exact⟨a,c.cy 1 1,f.cz,b.cy 9 1⟩) (λs=> ?_);clear m K)
   |(with_reducible show b5 _ _ _ _ _ _ _ _ _ _
     first
      |refine av (i:=15) rfl (λK aD=> ?_) ?_
      |refine av (i:=17) rfl (λK aV=> ?_) ?_
      |refine av (i:=19) rfl (λK bq=> ?_) ?_
      |exact bm)
   |(with_reducible show bJ _ _ _ _ _ _ _ _ _
     first
      |refine ak [17] ?_
      |refine ak [15] ?_
      |refine ak [19] ?_
      |refine aa 18 ?_
      |refine aW (by decide +kernel) (aX ?_) _)
   |fail
  all_goals try clear s
  go_wp2
  go_end0
  exact⟨rfl,_,_,_,_,_,_,_,l,⟨eb r rd,ba.out.lq⟩,N⟩
theorem Fw {k:Nat}{e:Nat}{x:Rat}(hb:Bx 53 w g [J s,D A a c,D ai d e])(j:Qk k w (af #[J s,D A a c,D ai d e]) x)(i:b<=g):aA (Qk k) 53 b w (D (U ⟨g,0,none⟩) 1 1) [x]:=
 ⟨[⟨s,D A a c,D ai d e⟩],Al.one (x:=⟨s,D A a c,D ai d e⟩) j,λl f=>by(simp at f;subst f;exact⟨⟨_,_,_,rfl⟩,⟨_,_,_,rfl⟩⟩),.inr ⟨g,[],rfl,i,hb,by simp,by simp[maxLen]⟩⟩
theorem Fx {k:Nat}(h:aF k w (D A n c) qs):∃ms,b2 w A (aS ms)/\Al (λx q=>Qk k w x.agg q) ms qs:=by
 obtain⟨ms,ha,a⟩:=h;exact⟨ms,a.rd,ha⟩
theorem Fy {y:Rat}(m:Qk K w (af #[J s,D A a c,D ai b d]) t)(x:aF K w (D GY 1 iB) [y]):
 aj ae 225 #[af #[J s,D A a c,D ai b d,D GY 1 iB,D GP 0 jz]] w λe z=> ∃l c,e=aw (D l 2 c)/\aF K z (D l 2 c) [t,y]/\V w z:=by
 have H:=G x;clear x;go_enter func225,ntmps225;go_upto_region 1 with fail
 generalize v:ah w _=f at*;obtain⟨k,g⟩:=aC v;clear v;replace m:=m.up k;have Q:=g.c5;have i:=(V.refl f).alloc (ao #[J s,D A a c,D ai b d] 53);have o:=G (Fw (b:=f.heap.size) (Bx.new 53 f [J s,D A a c,D ai b d]) (m.up i) (a8 _));have C:=G (Fx ((H.out.up k).up i));obtain⟨ms,S,T⟩:=C.out;have j:=G (g.up i);have E:=G i;have F:=G k;have c3:=j.out.k 3;clear k i m g;go_upto_region 2 with(at_builtin;refine oI (aR _) underlying44 d7 (w0:=f) rfl _ _ rfl rfl o.out E.out rfl S T rfl (by simp) ?_;intro M P p W B I)
 obtain⟨l,R,(n:M=D l 2 R)⟩:=aA.form p;subst n;have g:Bx 302 P w.heap.size [J s,D A a c,D ai b d,D GY 1 iB,D GP 0 jz]:=(B.block _ j.out.lt (λe=>eu o.out j.out (by decide) e.symm)).trans j.out;have c2:=g.k 4;clear c3 Q;go_wp2_with(at_builtin;refine oI (aR _) underlying44 d7 (w0:=f) rfl _ _ rfl rfl p I rfl (ms:=[]) (b2.nil _ _) (Al.nil _) rfl (by simp) ?_;intro N Y q X U L);obtain⟨r,u,(n:N=D r 2 u)⟩:=aA.form q;subst n;go_ret;exact⟨r,u,rfl,aA.weaken q (bn _),F.out.trans L⟩
theorem nB {j b:Nat}{w:O}{A:Option am}{c:Nat}{q:Rat}(h:aA (Qk j) 53 b w (D A 1 c) [q]):∃(g:Nat) (s:Bool) (B ai:Option am) (r f t o:Nat) (fs:List W),A=U ⟨g,0,none⟩/\b<=g/\Bx 53 w g ([J s,D B r f,D ai t o]++fs)/\Qk j w (af #[J s,D B r f,D ai t o]) q/\
 ∀(u:O) (k:Nat) (n:Bool) (a d:Option am) (l e m i:Nat) (y:Rat),Bx 53 u g ([J n,D a l e,D d m i]++fs)->Qk k u (af #[J n,D a l e,D d m i]) y->aA (Qk k) 53 b u (D (U ⟨g,0,none⟩) 1 c) [y]:=by
 obtain⟨P,ha,K⟩:=h
 match P,ha with
 |[Q],ha=>
  have z:Qk j w Q.agg q:=ha.2 0 _ _ rfl rfl;obtain⟨N,E,F,r,f,t,o,rfl⟩:=z.form;rcases K.2 with⟨v,_⟩|⟨g,C,v,hb,L,p,H⟩
  .cases v
  .injection v with f R G
   subst f G;exact⟨g,N,E,F,r,_,t,o,aS C,rfl,hb,L,z,λu k n a d l e m i y M I=>⟨[⟨n,D a l e,D d m i⟩],Al.one (x:=⟨n,D a l e,D d m i⟩) I,λS p=>by(simp at p;subst p;exact⟨⟨_,_,_,rfl⟩,⟨_,_,_,rfl⟩⟩),.inr ⟨g,C,rfl,hb,M,p,H⟩⟩⟩
 |[],ha=>exact absurd ha.1 (by simp)
 |_::_::_,ha=>exact absurd ha.1 (by simp)
theorem Fz (w:O):Fr w (af #[J false,D none 0 0,D none 0 0]) 0 2:=⟨_,_,_,[],[],rfl,Ws.nil w,Ws.nil w,by simp[E.val,Rat.mkRat_zero],by simp,by simp,by omega⟩
theorem jA {P Q:O->W->Rat->Prop}(h:Sq P w (D A 0 c) [])(d:O):Sq Q d (D A 0 c) []:=by
 obtain⟨e,f,k,a,g,b,i,j⟩:=h;cases a;exact⟨_,_,[],rfl,by simp,b,Al.nil _,b2.nil _ _⟩
theorem Qk.some {k:Nat}{q:Rat}(h:Qk k w (af #[J s,D A a c,D ai b d]) q):b≠0:=by
 obtain⟨u,v,e,_,h2⟩:=h.1;simp at e;obtain⟨_,rfl,rfl⟩:=e;obtain⟨_,_,e⟩:=h2.form;injection e with _ e
 rw[e];intro f;exact q.den_nz (E.hq.1 f)
end Go.Proofs.YtjopfpegcckllaaGreatDoor
