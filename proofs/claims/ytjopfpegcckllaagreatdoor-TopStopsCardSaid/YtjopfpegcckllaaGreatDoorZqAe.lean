/- A part of TopStops's proof: Structs PolyPlain SvBs. -/
import Derived.ProofKit
import Derived.OpenShut
import Derived.ChangeOld
import Derived.Deep.Slices
import Derived.Lib.SmallJoins
import Derived.Deep.Fields
import Derived.Deep.Strs
import Derived.StillTailTactics
import Derived.BigQuiet
import Derived.Deep.QuietTactic
import Derived.Test.YtjopfpegcckllaaGreatDoorZqAd
set_option linter.unusedVariables false
set_option linter.unusedSimpArgs false
set_option maxRecDepth 100000
set_option maxHeartbeats 12800000
open Go.Proofs.Tryz
open Go renaming Oper→bt,Act→a6,World→O,Value→W,Calls→aj,Addr→am,maxLen→cm,TypeId→an,Ending→aO,wpList→bG,sizeOf→ci,isAgg→ct,bodyPost_ret→a4
open Go.DataW renaming trod→b7
open Go.Ending renaming returned→aw
open Go.IntKind renaming u32→a7,i64→I
open Go.Lib renaming hid→G
open Go.Obj renaming cells→ao
open Go.Proofs.Tryz renaming prog→ae
open Go.RowKit renaming Hid→Y,intOf→aI
open Go.Value renaming tuple→aY,int→H,bool→J,slice→D,agg→af,pointer→az
open Go.World renaming setCell→ag,alloc→ah
open List renaming getElem_mem→cq,getD_eq_getElem?_getD→bz,getElem?_eq_getElem→aT,replicate→bA,take_length→co
open Nat renaming le_refl→a8,le_trans→aQ,zero_le→bn
open Option renaming some→U
variable {cD α:Type}{aV:Array bt}{s:Bool}{Q:Go.Exit->a6->O->Prop}{L:Int}{xs:List (List W)}{l:List Nat}{a aM b fC hD p q:List Rat}{vs:List W}{rest:List bt}{M N R base c cu d dw e ee g i j k m n x y:Nat}{aD ab w w0:O}{A:Option am}{t:Rat}{u v z:W}{S T TS:an}{o:bt}
namespace Go.Proofs.YtjopfpegcckllaaGreatDoor
open Go.RowKit
theorem mj (w:O):(ct 34).run ae w= .ok true w:=by kernel_rfl
theorem ml (w:O):(ci 34).run ae w= .ok 3 w:=by kernel_rfl
theorem iY (s:Bool)(a ai:Option am)(n c m d:Nat)(w:O):
 aj ae 26 #[af #[J s,D a n c,D ai m d]] w λe g=>e=aw (af #[J s,D a n c,D ai m d])/\V w g:=by
 have b:V w ((w.alloc (ao #[J s,D a n c,D ai m d] 34)).alloc (ao #[J s,D a n c,D ai m d] 53)):=((V.refl w).alloc _).alloc _;obtain⟨i,f⟩:=f6 34 53 w [J s,D a n c,D ai m d] [J s,D a n c,D ai m d];go_enter func26,ntmps26;go_wp2;exact a4 (cl rfl rfl g6 g7 f rfl) rfl ⟨rfl,b⟩
theorem oJ {ai:Option am}{k:Int}(h1:(n:Int)<=k)(h2:(m:Int)<=k)(f:k<=100000000):
 aj ae 17 #[af #[J s,D A n c,D ai m d],H I k] w λe b=>e=aw (J false)/\V w b:=by
 have a:V w (w.alloc (ao #[J s,D A n c,D ai m d] 34)):=(V.refl w).alloc _;go_enter func17,ntmps17;go_wp2;go_ret;refine⟨?_,a⟩;simp;omega
theorem oK {ai:Option am}{k:Int}(h1:k<(n:Int)\/k<(m:Int))(i:k<=100000000):
 aj ae 17 #[af #[J s,D A n c,D ai m d],H I k] w λe g=>e=aw (J true)/\V w g:=by
 have a:V w (w.alloc (ao #[J s,D A n c,D ai m d] 34)):=(V.refl w).alloc _
 by_cases b:k<(n:Int)
 .clear h1;go_enter func17,ntmps17;go_wp2;go_ret;exact⟨by simp[b],a⟩
 .have f:k<(m:Int):=by omega
  clear h1;go_enter func17,ntmps17;go_wp2;go_ret;exact⟨by simp[f],a⟩
def d0 (s t:Bool)(l a m b:List Nat):Bool:=(s==t)&&(decide (l=a)&&decide (m=b))
theorem si (s:Bool)(l m:List Nat):d0 s s l l m m=true:=by simp[d0]
theorem kj:E.Lq 0 2:=dR (n:=0) (by omega)
open Go.RowKit Go.ChangeShapes Go.WideShapes Go.Deep
theorem zI:Tryz.prog.cellsOf 186=1:=by kernel_rfl
theorem zJ:Tryz.prog.cellsOf 32=1:=by kernel_rfl
theorem kk {a:am}(j:vs.length=n)(h:∀i u,vs[i]? =U u->w.cell? (a.add i)=U u):b2 w (U a) vs:=by
 intro g;have b:=h 0 vs[0] (aT g);have c:=World.cell?_spot b;have hb:=World.block_lt_of_cell? w _ b;obtain⟨e,o,k⟩:=a;simp[Addr.add]at c hb;subst c;refine⟨e,o,rfl,hb,λd u f=> ?_⟩;have:=h d u f;unfold Addr.add at this
 by_cases b:d=0
 .subst b;simpa using this
 .simpa[b]using this
theorem mm {enc:an×W->cD}{x:DataW cD×List MemPlace}(h:b7 enc ae aD 0 (λ_=>true) true cu 32 [v]=U x):∃l,Ws aD v l:=by
 rcases open_ints underlying32 underlying186 zI h with⟨e,_⟩|⟨a,len,u,c,e,_,r,s,g,_,q,k⟩
 .simp at e;subst e;exact⟨[],Ws.nil aD⟩
 .simp at e g;subst e;have i:((c.take len).map Int.toNat).length=len:=by simp[g];omega
  refine⟨(c.take len).map Int.toNat,Ws.mk i.symm (by rw[i];exact r) s ?_ ?_⟩
  .intro z t;obtain⟨m,b,rfl⟩:=List.mem_map.1 t;have:=bounds_u32 (k m (List.mem_of_mem_take b));rw[E.bL];omega
  .refine kk (n:=len) (by simp[g];omega) ?_;intro d y j;simp only[List.getElem?_map,Option.map_eq_some_iff]at j;obtain⟨n,⟨m,b,rfl⟩,rfl⟩:=j;rw[List.getElem?_take]at b
   split at b
   .have f:d<c.length:=by omega
    have p:=q d f;rw[aT f]at b;cases b;have hb:=bounds_u32 (k c[d] (cq f));rw[p];have o:c.getD d 0=c[d]:=by simp[List.getD,f]
    rw[o];show _=U (H a7 ((c[d].toNat:Nat):Int));rw[Int.toNat_of_nonneg hb.1]
   .cases b
open Go.RowKit Go.ChangeShapes Go.WideShapes Go.Deep
theorem mn:Tryz.prog.cellsOf 34=3:=by kernel_rfl
abbrev ay:=Bool×List Nat×List Nat
def Rw (w:O)(v:W)(r:ay):Prop:= ∃b a,v=af #[J r.1,b,a]/\Ws w b r.2.1/\Ws w a r.2.2
theorem cG:Kp Rw where
 kw:=λ⟨e,a,b,c,d⟩ f=>⟨e,a,b,c.kw f,d.kw f⟩
 form:=λ⟨e,a,b,c,d⟩=>⟨⟨_,e,a⟩,b,c.shape,d.shape⟩
def ay.val (r:ay):Rat:=mkRat (E.iv r.1 (E.val r.2.1)) (E.val r.2.2)
def ay.size (r:ay):Nat:=E.bD (E.val r.2.1)+E.bD (E.val r.2.2)
def ay.bd (r:ay)(k:Nat):Prop:=r.2.1.length<=k/\r.2.2.length<=k
theorem Rw.fr {r:ay}(h:Rw w v r)(a:r.bd k)(h1:1<=k):cX k w v r.val:=by
 obtain⟨u,d,rfl,h2,b⟩:=h;exact⟨_,u,d,_,_,rfl,h2,b,rfl,a.1,a.2,h1⟩
theorem Al.map {eU kl:Type}{R:F3->eU->Prop}{S:F3->kl->Prop}{xs:List F3}{qs:List eU}(h:Al R xs qs)(f:eU->kl)(a:∀x q,q∈qs->R x q->S x (f q)):Al S xs (qs.map f):=by
 refine⟨by simp[h.1],λj x q h1 h2=> ?_⟩;rw[List.getElem?_map,Option.map_eq_some_iff]at h2;obtain⟨p,h2,rfl⟩:=h2;exact a x p (List.mem_of_getElem? h2) (h.2 j x p h1 h2)
theorem Sq.map {eU kl:Type}{P:O->W->eU->Prop}{Q:O->W->kl->Prop}{w:O}{v:W}{qs:List eU}(h:Sq P w v qs)(f:eU->kl)(g:∀v q,q∈qs->P w v q->Q w v (f q)):Sq Q w v (qs.map f):=by
 obtain⟨a,c,k,h1,h2,b,d,e⟩:=h;exact⟨a,c,k,by rw[List.length_map];exact h1,by rw[List.length_map];exact h2,b,d.map f λx q i j=>g _ q i j,e⟩
theorem Sq.GL {rs:List ay}(h:Sq Rw w v rs)(a:∀r∈rs,r.bd k)(h1:1<=k):Sq (cX k) w v (rs.map ay.val):=h.map _ λv r b c=>c.fr (a r b) h1
def mp (rs:List ay)(m k:Nat)(w:O)(e:aO)(b:O):Prop:= ∃a,e=aw (J a)/\Y (a=false->rs.length<=m/\ ∀r∈rs,r.bd k)/\V w b
theorem zK {rs:List ay}(b:j<rs.length)(h:∀r∈rs.take j,r.bd k)(h1:rs[j].bd k):∀r∈rs.take (j+1),r.bd k:=by
 intro r a;rw[List.take_succ_eq_append_getElem b]at a;rcases List.mem_append.1 a with a|a
 .exact h r a
 .simp at a;subst a;exact h1
theorem oL {rs:List ay}(m k:Nat)(h:Sq Rw w v rs)(X:m<=100000000)(T:k<=100000000):
 aj ae 18 #[v,H I (m:Int),H I (k:Int)] w (mp rs m k w):=by
 obtain⟨F,N,rfl⟩:=h.form;have A:rs.length<=cm:=by obtain⟨_,_,_,b,c,e,_⟩:=h;cases b;omega
 unfold maxLen at A;have n:=G h;clear h;go_enter func18,ntmps18;go_wp2
 go_loopw[7] (λi wr=> ∃a:Nat,i=H I a/\a<=rs.length/\a<=m/\Y (∀r∈rs.take a,r.bd k)/\V w wr) (λi _=>rs.length-(aI i).toNat)
 case atStart=>exact⟨0,rfl,bn _,bn _,G (by simp),V.refl w⟩
 case round=>
  obtain⟨a,rfl,S,z,j,d⟩:=hrel
  by_cases g:a<rs.length
  .by_cases U:a<m
   .obtain⟨M,o,af,B,ah,Q,ai,ab,R,rfl,hb,t,u,g3,C⟩:=(n.out.up cG d).at_ cG g
    have l:=G λc=>zK g j.out (k:=k) c
    have L:=G (cq g);generalize rs[a]=r at*;obtain⟨ag,P,b,c,e⟩:=C;obtain⟨J,c1,rfl⟩:=c.form;obtain⟨K,c2,rfl⟩:=e.form;simp at b;obtain⟨rfl,⟨rfl,rfl,rfl⟩,rfl,rfl,rfl⟩:=b;clear c e;have k1:(a:Int)<(rs.length:Int):=by omega
    have k2:(a:Int)<(m:Int):=by omega
    have Z:(0:Int)<=(a:Int):=by omega
    have aa:((a:Int)).toNat=a:=by omega
    by_cases f:(k:Int)<(r.2.1.length:Int)\/(k:Int)<(r.2.2.length:Int)
    .have p:=G f;clear f;go_wp2_with fail
     ((with_reducible refine(oK p.out (by omega)).mono ?_))
     rintro b w2 ⟨rfl,u2⟩;go_wp2;go_ret;exact⟨true,rfl,G (λh=>by cases h),d.trans u2⟩
    .have s:=G (l.out ⟨by omega,by omega⟩);have x:(r.2.1.length:Int)<=(k:Int):=by omega
     have y:(r.2.2.length:Int)<=(k:Int):=by omega
     clear f l;go_wp2_with fail
     ((with_reducible refine(oJ x y (by omega)).mono ?_))
     rintro b w2 ⟨rfl,u2⟩;have E:=d.trans u2;clear u2 t u g3;go_wp2
     go_roundw
     case rel=>exact⟨a+1,by go_num,by omega,by omega,s,E⟩
     case measure=>simp[aI];omega
   .obtain rfl:a=m:=by omega
    have k1:(a:Int)<(rs.length:Int):=by omega
    have k2:decide ((a:Int)<(a:Int))=false:=by simp
    go_wp2;go_ret;exact⟨true,by first|rfl|simp,G (λh=>by cases h),d⟩
  .obtain rfl:a=rs.length:=by omega
   have k2:decide ((m:Int)<(rs.length:Int))=false:=decide_eq_false (by omega);have q:Y (∀r∈rs,r.bd k):=G (by have:=j.out;rw[co]at this;exact this);go_wp2;go_ret;exact⟨false,by first|rfl|(simp;done)|(simp;omega),G (λ_=>⟨z,q.out⟩),d⟩
def zL {α:Type}(P:O->W->α->Prop)(T:an)(qs:List α)(w:O)(e:aO)(b:O):Prop:= ∃a,e=aw a/\aA P T w.heap.size b a qs/\V w b
theorem d7:iX 53:=by unfold iX;kernel_rfl
theorem sj {P:O->W->α->Prop}(A:Kp P){qs:List α}(h:Sq P w v qs)(af:qs.length<=100000000):
 aj ae 27 #[v] w (zL P 53 qs w):=by
 obtain⟨S,X,rfl⟩:=h.form;have E:=G h;have b:=G A;clear h A;go_enter func27,ntmps27;go_wp2
 go_loopw[3,4] (λR j wr=> ∃a:Nat,j=H I a/\a<=qs.length/\aA P 53 w.heap.size wr R (qs.take a)/\V w wr) (λ_ j _=>qs.length-(aI j).toNat)
 case atStart=>exact⟨0,rfl,bn _,aA.nil _ _ _ _,V.refl w⟩
 case round=>
  obtain⟨a,rfl,ab,c,f⟩:=hrel
  by_cases u:a<qs.length
  .obtain⟨U,o,i,B,k,d,ai,g,e,rfl,hb,K,L,g3,x⟩:=(E.out.up b.out f).at_ b.out u
   have F:Y (qs.take (a+1)=qs.take a++[qs[a]]):=G (List.take_succ_eq_append_getElem u);have l:Y ((qs.take a).length=a):=G (by rw[List.length_take];omega);generalize qs[a]=q at*;obtain⟨T,Z,rfl⟩:=c.form;rw[l.out]at c|-;have r:=G c;have m:=G x;clear c x;have k1:(a:Int)<(qs.length:Int):=by omega
   have ag:(0:Int)<=(a:Int):=by omega
   have ah:((a:Int)).toNat=a:=by omega
   go_wp2_with fail
   ((with_reducible refine(iY _ _ _ _ _ _ _ _).mono ?_))
   rintro aa w2 ⟨rfl,u2⟩;have C:=f.trans u2;have z:=r.out.up b.out u2;have y:=b.out.kw m.out u2.kw;clear K L g3 r m u2;have p:=G (z.up b.out ((V.refl w2).alloc (ao #[J i,D B k d,D ai g e] 53)));have n:=G (b.out.kw y ((V.refl w2).alloc (ao #[J i,D B k d,D ai g e] 53)).kw);have s:=G (C.alloc (ao #[J i,D B k d,D ai g e] 53));clear z y;go_wp2_with(at_builtin;refine fR b.out underlying44 d7 (w0:=w) rfl _ _ rfl rfl p.out s.out rfl (heap_alloc_new w2 _) n.out (by rw[l.out];omega) ?_;intro ak w3 t M N Q);rw[<-F.out]at t;clear M N p n s C;go_wp2
   go_roundw
   case rel=>exact⟨a+1,by go_num,by omega,t,Q⟩
   case measure=>simp[aI];omega
  .obtain rfl:a=qs.length:=by omega
   rw[co]at c;go_wp2;go_ret;exact⟨_,rfl,c,f⟩
open Go.RowKit Go.ChangeShapes Go.WideShapes Go.Deep
instance:Inhabited F3:=⟨F3.zero⟩
theorem jp {enc:an×W->cD}{x:DataW cD×List MemPlace}(h:b7 enc ae aD 0 (λ_=>true) true cu 26 [v]=U x):∃rs,Sq Rw aD v rs:=by
 rcases open_slice underlying26 h with⟨i,_⟩|⟨a,len,am,z,av,ai,al,i,_,X,Y,M,_,V⟩
 .simp at i;subst i;exact⟨[],Sq.nil Rw aD⟩
 .simp at i M;subst i M
  have T:∀b,b<len-> ∃c:F3×ay,Rw aD c.1.agg c.2/\aD.cell? (a.add (b*3))=U (J c.1.s)/\aD.cell? (a.add (b*3+1))=U c.1.u/\aD.cell? (a.add (b*3+2))=U c.1.d:=λb aq=>by
   obtain⟨P,K,Z⟩:=V b (by omega);rw[mn]at K;obtain⟨o,B,_,_,ar,ab,u⟩:=DataW.trod_struct underlying34 Z;obtain⟨_,S,g⟩:=World.cells?_some K
   match P,S with
   |[A,c1,c2],_=>
    have C:=g 0 (by omega);have q1:=g 1 (by omega);have E:=g 2 (by omega);rw[add_add]at C q1 E;simp only[List.getElem?_cons_zero,List.getElem?_cons_succ,Nat.add_zero]at C q1 E;have af:Tryz.prog.cellsOf 4=1:=by kernel_rfl
    have r:b7 enc ae aD 0 (λ_=>true) true B 4 (([A,c1,c2].drop 0).take (Tryz.prog.cellsOf 4))=o[0]? :=u 0 _ rfl;have s:b7 enc ae aD 0 (λ_=>true) true B 32 (([A,c1,c2].drop 1).take (Tryz.prog.cellsOf 32))=o[1]? :=u 1 _ rfl;have t:b7 enc ae aD 0 (λ_=>true) true B 32 (([A,c1,c2].drop 2).take (Tryz.prog.cellsOf 32))=o[2]? :=u 2 _ rfl;have au:o.length=3:=ab;rw[af]at r;rw[zJ]at s t;rw[aT (by omega)]at r s t;obtain⟨F,l⟩:=DataW.trod_bool underlying4 r;obtain⟨ag,hw⟩:=mm s;obtain⟨z,aa⟩:=mm t;obtain⟨l,_⟩:=l;simp at l;subst l;exact⟨(⟨F,c1,c2⟩,(F,ag,z)),⟨c1,c2,rfl,hw,aa⟩,C,q1,E⟩
  obtain⟨d,I⟩:=choose_lt (α:=F3×ay) (p:=λb c=>Rw aD c.1.agg c.2/\aD.cell? (a.add (b*3))=U (J c.1.s)/\aD.cell? (a.add (b*3+1))=U c.1.u/\aD.cell? (a.add (b*3+2))=U c.1.d) T
  have g:∀(f:Nat) x,((List.range len).map λb=>(d b).1)[f]? =U x->f<len/\x=(d f).1:=λf x m=>by
   simp only[List.getElem?_map,Option.map_eq_some_iff]at m;obtain⟨k,y,rfl⟩:=m;obtain⟨n,j⟩:=List.getElem?_eq_some_iff.1 y;simp at n j;exact⟨n,by rw[j]⟩
  have L:(aS ((List.range len).map λb=>(d b).1)).length=len*3:=by rw[fe];simp
  refine⟨(List.range len).map λb=>(d b).2,U a,z,(List.range len).map λb=>(d b).1,by simp,by simpa using X,Y,⟨by simp,λf x q Q G=> ?_⟩,kk L λb aw e=> ?_⟩
  .obtain⟨m,rfl⟩:=g f x Q;simp only[List.getElem?_map,Option.map_eq_some_iff]at G;obtain⟨k,y,rfl⟩:=G;obtain⟨n,j⟩:=List.getElem?_eq_some_iff.1 y;simp at n j;subst j;exact(I f m).1
  .have ao:b<len*3:=by
    rw[<-L];exact(List.getElem?_eq_some_iff.1 e).1
   obtain⟨q,N,R⟩:∃q,q<len/\(b=q*3\/b=q*3+1\/b=q*3+2):=⟨b/3,by omega,by omega⟩;obtain⟨ah,aj,ak⟩:=mg ((List.range len).map λb=>(d b).1) q (d q).1 (by simp[N]);obtain⟨_,c1,c2,c3⟩:=I q N;rcases R with rfl|rfl|rfl
   .rw[ah]at e;cases e;exact c1
   .rw[aj]at e;cases e;exact c2
   .rw[ak]at e;cases e;exact c3
def cU {α:Type}(P:O->W->α->Prop)(w:O)(v:W)(a:List (List α)):Prop:=
 ∃d b c,v=D d a.length b/\a.length<=b/\b<=cm/\c.length=a.length/\b2 w d c/\ ∀(e:Nat) g f,c[e]? =U g->a[e]? =U f->Sq P w g f
theorem cU.up {α:Type}{P:O->W->α->Prop}(m:Kp P){w ab:O}{v:W}{ls:List (List α)}(h:cU P w v ls)(a:V w ab):cU P ab v ls:=by
 obtain⟨b,c,vs,h1,h2,d,e,f,g⟩:=h;exact⟨b,c,vs,h1,h2,d,e,f.up a,λi u l k j=>(g i u l k j).up m a⟩
theorem cU.form {P:O->W->α->Prop}{ls:List (List α)}(h:cU P w v ls):∃a c,v=D a ls.length c:=by obtain⟨a,c,vs,h1,_⟩:=h;exact⟨a,c,h1⟩
theorem cU.at_ {α:Type}{P:O->W->α->Prop}{w:O}{A:Option am}{n c:Nat}{ls:List (List α)}(h:cU P w (D A n c) ls){k:Nat}(g:k<ls.length):
 ∃b o u,A=U ⟨b,o,none⟩/\b<w.heap.size/\w.cell? ⟨b,o+k,none⟩=U u/\Sq P w u ls[k]:=by
 obtain⟨i,j,vs,h1,h2,a,l,e,f⟩:=h;cases h1;have d:k<vs.length:=by omega
 obtain⟨b,o,h1,h2,a⟩:=e.at_ (aT d);exact⟨b,o,vs[k],h1,h2,a,f k _ _ (aT d) (aT g)⟩
theorem zM:Tryz.prog.cellsOf 26=1:=by kernel_rfl
open Go.RowKit Go.ChangeShapes Go.WideShapes Go.Deep
theorem sk {enc:an×W->cD}{v0 v1 v2:W}{x:DataW cD×List MemPlace}(h:b7 enc ae aD 0 (λ_=>true) true cu 34 [v0,v1,v2]=U x):
 ∃(s:Bool) (a ai:Option am) (l m:List Nat) (c d:Nat),v0=J s/\v1=D a l.length c/\v2=D ai m.length d/\Ws aD (D a l.length c) l/\Ws aD (D ai m.length d) m:=by
 obtain⟨e,k,_,_,t,p,j⟩:=DataW.trod_struct underlying34 h;have f:b7 enc ae aD 0 (λ_=>true) true k 4 (([v0,v1,v2].drop 0).take (Tryz.prog.cellsOf 4))=e[0]? :=j 0 _ rfl;have g:b7 enc ae aD 0 (λ_=>true) true k 32 (([v0,v1,v2].drop 1).take (Tryz.prog.cellsOf 32))=e[1]? :=j 1 _ rfl;have i:b7 enc ae aD 0 (λ_=>true) true k 32 (([v0,v1,v2].drop 2).take (Tryz.prog.cellsOf 32))=e[2]? :=j 2 _ rfl;have u:e.length=3:=p;have q:Tryz.prog.cellsOf 4=1:=by kernel_rfl
 have r:Tryz.prog.cellsOf 32=1:=by kernel_rfl
 rw[q]at f;rw[r]at g i;rw[aT (by omega)]at f g i;obtain⟨o,b⟩:=DataW.trod_bool underlying4 f;obtain⟨l,hw⟩:=mm g;obtain⟨m,n⟩:=mm i;obtain⟨b,_⟩:=b;simp at b;subst b;obtain⟨a,c,rfl⟩:=hw.form;obtain⟨ai,d,rfl⟩:=n.form;exact⟨o,a,ai,l,m,c,d,rfl,rfl,rfl,hw,n⟩
def cQ (n:Nat)(x:List W):Prop:=x.length=n/\ ∀a∈x,dA a/\a.oneCell'=true
theorem eL {n:Nat}:∀{xs:List (List W)},(∀x∈xs,cQ n x)->xs.flatten.length=xs.length*n
 |[],_=>by simp
 |x::xs,f=>by
  have ih:=eL (n:=n) (xs:=xs) λb a=>f b (by simp[a])
  rw[List.flatten_cons,List.length_append,ih,(f x (by simp)).1,List.length_cons,Nat.succ_mul];omega
theorem zN (h:∀x∈xs,cQ n x)(b:u∈xs.flatten):dA u/\u.oneCell'=true:=by
 obtain⟨x,c,a⟩:=List.mem_flatten.1 b;exact(h x c).2 u a
theorem zO (h:∀x∈xs,cQ n x)(k:Nat):(xs.take k).flatten=xs.flatten.take (k*n):=by
 have a:∀x∈xs.take k,cQ n x:=λx a=>h x (List.mem_of_mem_take a)
 by_cases c:k<=xs.length
 .have b:xs.flatten=(xs.take k).flatten++(xs.drop k).flatten:=by rw[<-List.flatten_append,List.take_append_drop]
  rw[b,List.take_left' (by rw[eL a,List.length_take,Nat.min_eq_left c])]
 .rw[List.take_of_length_le (by omega),List.take_of_length_le];rw[eL h];exact Nat.mul_le_mul_right n (by omega)
theorem zP (h:∀x∈xs,cQ n x)(k:Nat):(xs.drop k).flatten=xs.flatten.drop (k*n):=by
 have a:∀x∈xs.take k,cQ n x:=λx a=>h x (List.mem_of_mem_take a)
 by_cases c:k<=xs.length
 .have b:xs.flatten=(xs.take k).flatten++(xs.drop k).flatten:=by rw[<-List.flatten_append,List.take_append_drop]
  rw[b,List.drop_left' (by rw[eL a,List.length_take,Nat.min_eq_left c])]
 .rw[List.drop_of_length_le (by omega),List.drop_of_length_le]
  .rfl
  .rw[eL h];exact Nat.mul_le_mul_right n (by omega)
theorem oM {n:Nat}:∀{xs:List (List W)},(∀x∈xs,cQ n x)-> ∀{j:Nat} {x:List W},xs[j]? =U x-> ∀{i:Nat} {u:W},x[i]? =U u->xs.flatten[j*n+i]? =U u
 |[],_,_,_,f,_,_,_=>by simp at f
 |y::xs,A,0,x,f,i,u,m=>by
  simp at f;subst f;rw[Nat.zero_mul,Nat.zero_add,List.flatten_cons,List.getElem?_append_left (List.getElem?_eq_some_iff.1 m).1];exact m
 |y::xs,A,j+1,x,f,i,u,m=>by
  have ih:=oM (n:=n) (xs:=xs) (λc b=>A c (by simp[b])) (j:=j) (x:=x) (by simpa using f) m;have a:=(A y (by simp)).1;rw[List.flatten_cons,List.getElem?_append_right (by rw[a,Nat.succ_mul];omega),a];rw[<-ih]
  congr 1
  rw[Nat.succ_mul];omega
theorem mq (z:Array W):∀k:Nat,(Builtin.zeroCells z k).toList=(bA k z.toList).flatten
 |0=>by simp[Builtin.zeroCells]
 |k+1=>by
  have ih:=mq z k;rw[List.replicate_succ',List.flatten_append,<-ih];unfold Builtin.zeroCells;apply List.ext_getElem?;intro a;have f:(k+1)*z.size=k*z.size+z.size:=Nat.succ_mul _ _
  by_cases c:a<k*z.size
  .rw[List.getElem?_append_left (by simpa using c)];simp[c,f,Nat.lt_add_right]
  .rw[List.getElem?_append_right (by simpa using c)]
   by_cases d:a<(k+1)*z.size
   .have b:a-k*z.size<z.size:=by omega
    have e:a%z.size=a-k*z.size:=by
     obtain⟨r,rfl⟩:∃r,a=k*z.size+r:=⟨a-k*z.size,by omega⟩;rw[Nat.add_sub_cancel_left]at b|-;rw[Nat.mul_comm,Nat.mul_add_mod,Nat.mod_eq_of_lt b]
    simp[d,e,b,getElem!_pos]
   .have b:¬a-k*z.size<z.size:=by omega
    simp[d,b]
variable {α:Type}
def An (R:List W->α->Prop)(xs:List (List W))(qs:List α):Prop:=xs.length=qs.length/\ ∀(a:Nat) b q,xs[a]? =U b->qs[a]? =U q->R b q
theorem An.nil (R:List W->α->Prop):An R [] []:=⟨rfl,λj x q h _=>by simp at h⟩
theorem An.imp {R S:List W->α->Prop}{qs:List α}(h:An R xs qs)(f:∀x q,R x q->S x q):An S xs qs:=⟨h.1,λj x q h1 h2=>f x q (h.2 j x q h1 h2)⟩
theorem An.snoc {R:List W->α->Prop}{qs:List α}(h:An R xs qs){x:List W}{q:α}(c:R x q):An R (xs++[x]) (qs++[q]):=by
 refine⟨by simp[h.1],λj y r h1 h2=> ?_⟩
 by_cases a:j<xs.length
 .rw[List.getElem?_append_left a]at h1;rw[List.getElem?_append_left (by rw[<-h.1];exact a)]at h2;exact h.2 j y r h1 h2
 .rw[List.getElem?_append_right (by omega)]at h1;rw[List.getElem?_append_right (by rw[<-h.1];omega),<-h.1]at h2
  have b:j-xs.length=0:=by
   have:=(List.getElem?_eq_some_iff.1 h1).1;simp at this;omega
  rw[b]at h1 h2;simp at h1 h2;subst h1 h2;exact c
theorem An.at_ {R:List W->α->Prop}{qs:List α}(h:An R xs qs)(a:k<qs.length):∃x,xs[k]? =U x/\R x qs[k]:=by
 have b:k<xs.length:=by rw[h.1];exact a
 exact⟨_,aT b,h.2 k _ _ (aT b) (aT a)⟩
def Ap (T:an)(w a:O):Prop:=Kw w a/\(V w a\/ ∃b c,Bx T w b c/\w.grownBy a (U b))
theorem Ap.up (h:V w ab):Ap T w ab:=⟨h.kw,.inl h⟩
theorem Ap.bx (h:Ap T w ab)(c:S≠T)(hb:Bx S w g vs):Bx S ab g vs:=by
 rcases h.2 with h|⟨bI,us,a,b⟩
 .exact hb.up h
 .refine(b.block g hb.lt λe=> ?_).trans hb;cases e;unfold Bx at hb a;rw[hb]at a;cases a;exact c rfl
theorem Ap.own {eU:Type}{P:O->W->eU->Prop}(f:Kp P)(h:Ap T w ab)(c:S≠T){qs:List eU}(d:aA P S base w v qs):aA P S base ab v qs:=by
 obtain⟨i,ha,h1,h2⟩:=d;refine⟨i,ha.imp λx q a=>f.kw a h.1,h1,?_⟩;rcases h2 with h2|⟨g,ys,e,b,a,r⟩
 .exact .inl h2
 .exact .inr ⟨g,ys,e,b,h.bx c a,r⟩
structure Kn (n:Nat) (T:an) (P:O->List W->α->Prop):Prop where
 kw:∀{w ab:O} {x:List W} {q:α},P w x q->Ap T w ab->P ab x q
 ok:∀{w:O} {x:List W} {q:α},P w x q->cQ n x
def Sn (P:O->List W->α->Prop)(w:O)(v:W)(qs:List α):Prop:=
 ∃b a c,v=D b qs.length a/\qs.length<=a/\a<=cm/\An (P w) c qs/\b2 w b c.flatten
theorem Sn.up {n:Nat}{T:an}{P:O->List W->α->Prop}(i:Kn n T P){w ab:O}{v:W}{qs:List α}(h:Sn P w v qs)(a:V w ab):Sn P ab v qs:=by
 obtain⟨b,c,j,h1,h2,d,e,f⟩:=h;exact⟨b,c,j,h1,h2,d,e.imp λx q g=>i.kw g (Ap.up a),f.up a⟩
theorem Sn.imp {P Q:O->List W->α->Prop}{w:O}{v:W}{qs:List α}(h:Sn P w v qs)(f:∀{v q},P w v q->Q w v q):Sn Q w v qs:=by
 obtain⟨a,c,i,h1,h2,b,d,e⟩:=h;exact⟨a,c,i,h1,h2,b,d.imp λx q g=>f g,e⟩
theorem Sn.form {P:O->List W->α->Prop}{qs:List α}(h:Sn P w v qs):∃a c,v=D a qs.length c:=by obtain⟨a,c,b,h1,_⟩:=h;exact⟨a,c,h1⟩
theorem Sn.nil (P:O->List W->α->Prop)(w:O):Sn P w (D none 0 0) []:=⟨none,0,[],rfl,by simp,by simp,An.nil _,λh=>absurd h (by simp)⟩
theorem Sn.at_ {n:Nat}{T:an}{P:O->List W->α->Prop}(B:Kn n T P)(h0:0<n){w:O}{A:Option am}{m c:Nat}{qs:List α}(h:Sn P w (D A m c) qs){k:Nat}(q:k<qs.length):
 ∃b o x,A=U ⟨b,o,none⟩/\b<w.heap.size/\P w x qs[k]/\ ∀(i:Nat) u,x[i]? =U u->w.cell? ⟨b,o+k*n+i,none⟩=U u:=by
 obtain⟨C,E,f,h1,h2,F,a,g⟩:=h;cases h1;obtain⟨x,v,s⟩:=a.at_ q
 have d:∀x∈f,cQ n x:=λy z=>by
  obtain⟨j,e⟩:=List.getElem?_of_mem z;have p:j<qs.length:=by rw[<-a.1];exact(List.getElem?_eq_some_iff.1 e).1
  exact B.ok (a.2 j y _ e (aT p))
 have r:0<f.flatten.length:=by
  rw[eL d,a.1];exact Nat.mul_pos (by omega) h0
 obtain⟨b,o,rfl,hb,l⟩:=g r;refine⟨b,o,x,rfl,hb,s,λi u t=> ?_⟩;have:=l _ _ (oM d v t)
 rwa [<-Nat.add_assoc]at this
def es (n:Nat)(T:an)(base:Nat)(w:O)(v:W)(xs:List (List W)):Prop:=
 (∀c∈xs,cQ n c)/\((v=D none 0 0/\xs=[])\/ ∃b a,v=D (U ⟨b,0,none⟩) xs.length (xs.length+a.length)/\base<=b/\Bx T w b (xs++a).flatten/\(∀d∈a,cQ n d)/\xs.length+a.length<=cm)
theorem es.nil (n:Nat)(T:an)(base:Nat)(w:O):es n T base w (D none 0 0) []:=⟨by simp,.inl ⟨rfl,rfl⟩⟩
theorem jq {ys:List (List W)}(h:∀x∈xs,cQ n x)(k:∀x∈ys,cQ n x):∀x∈xs++ys,cQ n x:=λx b=>by
 rcases List.mem_append.1 b with a|a
 .exact h x a
 .exact k x a
theorem es.own (h:es n T base w v xs):w.ownsRow base T n v xs.length xs.flatten:=by
 refine⟨eL h.1,?_⟩;rcases h.2 with⟨rfl,rfl⟩|⟨g,ys,rfl,hb,b,c,a⟩
 .exact .inl ⟨rfl,rfl⟩
 .refine .inr ⟨g,_,_,rfl,hb,b,by omega,a,?_,?_⟩
  .simp only[List.size_toArray];rw[eL (jq h.1 c),List.length_append]
  .rw[List.flatten_append];simp only[List.take_left' (eL h.1)]
theorem es.kept {row:Option Nat}(h:es n T base w v xs)(b:w.grownBy ab row)(d:v.ownBlock=none\/v.ownBlock≠row):es n T base ab v xs:=by
 refine⟨h.1,?_⟩;rcases h.2 with h2|⟨g,ys,rfl,hb,a,e,c⟩
 .exact .inl h2
 .exact .inr ⟨g,ys,rfl,hb,(b.block g a.lt (by simpa[Value.ownBlock]using d)).trans a,e,c⟩
theorem es.up (h:es n T base w v xs)(a:V w ab):es n T base ab v xs:=h.kept (row:=none) (gN a none) (by cases v.ownBlock<;>simp)
instance es.bW {n:Nat} {T:an} {base:Nat} {w ab:O} {v:W} {xs:List (List W)}:Lu (V w ab) (es n T base w v xs) (es n T base ab v xs):=bu λu h=>h.up u
theorem es.rd (h:es n T base w (D A m c) xs):b2 w A xs.flatten:=by
 obtain⟨a,b,e,_⟩:=om h.own;cases e;exact b2.hn h.own
theorem Kw.GM (h:Bx T w g xs.flatten)(b:∀x∈xs,cQ n x)(cs:Array W):Kw w (w.setRow g cs):=by
 refine⟨by simp[World.setRow],λp y a=> ?_⟩
 by_cases hb:p.block=g
 .exfalso;subst hb;unfold Bx at h;unfold World.cell? at a;rw[h]at a;simp only at a
  split at a
  .cases a
  .have:=List.mem_of_getElem? (by simpa using a);exact(zN b this).1
 .rw[cell_setRow_other w g cs p hb];exact a
abbrev d8 (T:an)(z:W)(n b:Nat):Prop:=(Tryz.prog.info? T).map (λa=>(a.zero,a.size,a.bytes))=U (U z,n,b)
theorem oN {ty:an}{m:List W}{ad:am}(E:Tryz.prog.underlying TS=U (.slice T))(hI:d8 T z n ee)(aj:cQ n z.cells.toList)(X:ee<=1000)
 (h:es n T base w v xs)(C:∀(j:Nat) u,m[j]? =U u->w.cell? (ad.add j)=U u)(o:cQ n m)(hb:xs.length<=1000000000)(F:base<=w.heap.size):
 ∃r s,(Builtin.append_ #[TS,TS] ty #[v,D (U ad) 1 c]).run ae w= .ok r s/\es n T base s r (xs++[m])/\Ap T w s/\w.grownBy s v.ownBlock/\(r.ownBlock=v.ownBlock\/ ∃g,r.ownBlock=U g/\w.heap.size<=g):=by
 obtain⟨i,x,J,q,G⟩:=info_parts hI;have ag:=h.own;have B:∀L∈xs++[m],cQ n L:=jq h.1 λL e=>by simp at e;rw[e];exact o
 have A:m.length=1*i.size:=by rw[q,o.1];omega
 have K:∀k,∀t∈bA k z.cells.toList,cQ n t:=λk t f=>by rw[(List.mem_replicate.1 f).2];exact aj
 rcases h.2 with⟨rfl,rfl⟩|⟨g,a,rfl,aa,e,f,ak⟩
 .have l:=run_append_nil (P:=ae) w TS ty T i _ E x J ad 1 c m A C (by omega) (by omega) (by rw[G];omega);have ab:=grownCap_ge w 1 0 T;have af:=grownCap_le_maxLen w 1 0 T (by simp only[cm];omega);generalize grownCap w 1 0 T=b at*;have p:V w (w.drew.alloc (ao (m.toArray++Builtin.zeroCells z.cells (b-1)) T)):=(V.refl w).drew.alloc _;refine⟨_,_,l,⟨by simpa using B,.inr ⟨w.heap.size,bA (b-1) z.cells.toList,?_,F,?_,K _,?_⟩⟩,Ap.up p,gN p _,.inr ⟨w.heap.size,rfl,a8 _⟩⟩
  .simp;omega
  .have d:m.toArray++Builtin.zeroCells z.cells (b-1)=(([]++[m]++bA (b-1) z.cells.toList).flatten).toArray:=by
    apply Array.toList_inj.1;rw[Array.toList_append,mq];simp
   rw[d];exact heap_alloc_new w.drew _
  .simp;omega
 .by_cases I:xs.length+1<=xs.length+a.length
  .have Z:(xs++a).flatten.length=(xs.length+a.length)*n:=by rw[eL (jq h.1 f),List.length_append]
   have H:(xs.length+1)*n<=(xs.length+a.length)*n:=Nat.mul_le_mul_right n I;rw[Nat.succ_mul]at H;have Y:xs.length*i.size+m.length<=(xs++a).flatten.toArray.size:=by rw[q,o.1];simp only[List.size_toArray];rw[Z];exact H
   have l:=run_append_room (P:=ae) w TS ty T i E x g xs.length (xs.length+a.length) _ e ad 1 c m A C (λu ah=>(o.2 u ah).2) I Y
   have d:(((xs++a).flatten.toArray.toList.take (xs.length*i.size)++m++(xs++a).flatten.toArray.toList.drop (xs.length*i.size+m.length)).toArray)=(xs++[m]++a.drop 1).flatten.toArray:=by
    have M:(xs++a).flatten.take (xs.length*n)=xs.flatten:=by rw[<-zO (jq h.1 f),List.take_left]
    have N:(xs++a).flatten.drop (xs.length*n+n)=(a.drop 1).flatten:=by
     have Q:xs.length*n+n=(xs.length+1)*n:=(Nat.succ_mul _ _).symm;have R:(xs++a).drop (xs.length+1)=a.drop 1:=by rw[<-List.drop_drop,List.drop_left]
     rw[Q,<-zP (jq h.1 f),R]
    have S:(xs++a).flatten.toArray.toList=(xs++a).flatten:=rfl;rw[S,q,o.1,M,N];simp
   rw[d]at l;refine⟨_,_,l,⟨B,.inr ⟨g,a.drop 1,?_,aa,setRow_heap w g _ _ T _ e,λt ai=>f t (List.mem_of_mem_drop ai),?_⟩⟩,⟨Kw.GM e (jq h.1 f) _,.inr ⟨g,_,e,?_⟩⟩,?_,.inl rfl⟩
   .simp;omega
   .simp;omega
   .exact⟨rfl,rfl,rfl,by simp[World.setRow],λk _ y=>setRow_other w g k _ (λd=>y (by rw[d]))⟩
   .exact⟨rfl,rfl,rfl,by simp[World.setRow],λk _ y=>setRow_other w g k _ (λd=>y (by simp[Value.ownBlock,d]))⟩
  .have holds:∀j u,xs.flatten[j]? =U u->w.cell? ((⟨g,0,none⟩:am).add j)=U u:=ag.cells (g:=g) rfl;have l:=run_append_grow (P:=ae) w TS ty T i _ E x J ⟨g,0,none⟩ xs.length (xs.length+a.length) xs.flatten (by rw[q,eL h.1]) holds ad 1 c m A C (by omega) (by omega) (growslice_fits (by omega) (by rw[G];have:=Nat.mul_le_mul_left (xs.length+1) X;omega));have ab:=grownCap_ge w (xs.length+1) (xs.length+a.length) T;have af:=grownCap_le_maxLen w (xs.length+1) (xs.length+a.length) T (by simp only[cm];omega);generalize grownCap w (xs.length+1) (xs.length+a.length) T=b at*;have p:V w (w.drew.alloc (ao (xs.flatten.toArray++m.toArray++Builtin.zeroCells z.cells (b-(xs.length+1))) T)):=(V.refl w).drew.alloc _;refine⟨_,_,l,⟨B,.inr ⟨w.heap.size,bA (b-(xs.length+1)) z.cells.toList,?_,F,?_,K _,?_⟩⟩,Ap.up p,gN p _,.inr ⟨w.heap.size,rfl,a8 _⟩⟩
   .simp;omega
   .have d:xs.flatten.toArray++m.toArray++Builtin.zeroCells z.cells (b-(xs.length+1))=((xs++[m]++bA (b-(xs.length+1)) z.cells.toList).flatten).toArray:=by
     apply Array.toList_inj.1;rw[Array.toList_append,Array.toList_append,mq];simp
    rw[d];exact heap_alloc_new w.drew _
   .simp;omega
def aP (P:O->List W->α->Prop)(n:Nat)(T:an)(base:Nat)(w:O)(v:W)(qs:List α):Prop:= ∃a,An (P w) a qs/\es n T base w v a
theorem aP.nil (P:O->List W->α->Prop)(n:Nat)(T:an)(base:Nat)(w:O):aP P n T base w (D none 0 0) []:=⟨[],An.nil _,es.nil n T base w⟩
theorem aP.sn {P:O->List W->α->Prop}{qs:List α}(h:aP P n T base w v qs):Sn P w v qs:=by
 obtain⟨f,ha,b⟩:=h
 have d:∃a c,v=D a qs.length c/\qs.length<=c/\c<=cm:=by
  rcases b.2 with⟨rfl,rfl⟩|⟨g,ys,rfl,hb,i,j,e⟩
  .have:qs.length=0:=by rw[<-ha.1];rfl
   exact⟨none,0,by rw[this],by omega,by simp⟩
  .exact⟨_,_,by rw[ha.1],by rw[ha.1];omega,e⟩
 obtain⟨a,c,rfl,h1,h2⟩:=d;exact⟨a,c,f,rfl,h1,h2,ha,b.rd⟩
theorem aP.form {P:O->List W->α->Prop}{n:Nat}{T:an}{base:Nat}{w:O}{v:W}{qs:List α}(h:aP P n T base w v qs):∃a c,v=D a qs.length c:=h.sn.form
theorem aP.up {P:O->List W->α->Prop}{n:Nat}{T:an}(d:Kn n T P){base:Nat}{w ab:O}{v:W}{qs:List α}(h:aP P n T base w v qs)(a:V w ab):aP P n T base ab v qs:=by
 obtain⟨e,ha,b⟩:=h;exact⟨e,ha.imp λx q c=>d.kw c (Ap.up a),b.up a⟩
theorem aP.lt {P:O->List W->α->Prop}{n:Nat}{T:an}{base:Nat}{w:O}{v:W}{qs:List α}(h:aP P n T base w v qs):∀k,v.ownBlock=U k->base<=k/\k<w.heap.size:=by
 obtain⟨b,ha,a⟩:=h;exact a.own.lt
theorem aP.weaken {P:O->List W->α->Prop}{gL:Nat}{qs:List α}(h:aP P n T base w v qs)(hb:gL<=base):aP P n T gL w v qs:=by
 obtain⟨b,ha,h1,h2⟩:=h;refine⟨b,ha,h1,?_⟩;rcases h2 with h2|⟨g,ys,e,a,r⟩
 .exact .inl h2
 .exact .inr ⟨g,ys,e,aQ hb a,r⟩
theorem aP.imp {P Q:O->List W->α->Prop}{n:Nat}{T:an}{base:Nat}{w:O}{v:W}{qs:List α}(h:aP P n T base w v qs)(f:∀{v q},P w v q->Q w v q):aP Q n T base w v qs:=by
 obtain⟨c,ha,a⟩:=h;exact⟨c,ha.imp λx q b=>f b,a⟩
theorem zQ {P:O->List W->α->Prop}(f:Kn n T P)(H:Tryz.prog.underlying TS=U (.slice T))(hI:d8 T z n ee)(L:cQ n z.cells.toList)(t:ee<=1000){a:a6}{K:a6->O->Prop}(s y:Operand)
 (B:o.op= .call {callee:= .builtin .append,args:=#[s,y],argTypes:=#[TS,TS]})
 {v:W}{qs:List α}(G:a.eval s=v)(C:aP P n T w0.heap.size w v qs)(l:V w0 w)
 {g c:Nat}{x:List W}{q:α}(J:a.eval y=D (U ⟨g,0,none⟩) 1 c)(E:Bx T w g x)(ha:P w x q)(hb:qs.length<=1000000000)
 (h:∀d b,aP P n T w0.heap.size b d (qs++[q])->Ap T w b->V w0 b->K (a.put o.dst d) b):o.wp ae a w K Q:=by
 obtain⟨M,i,j⟩:=C;obtain⟨d,b,F,p,e,r,_⟩:=oN (ty:=o.type) (c:=c) (ad:=⟨g,0,none⟩) (m:=x) H hI L t j (λN R u=>by rw[Addr.add_lit,Nat.zero_add];exact E.cell u) (f.ok ha) (by rw[i.1];exact hb) l.size;unfold Oper.wp execOp;simp only[B,resolve,invoke,builtin,Sem.run_bind,Sem.run_pure,Result.andThen_ok,List.map_toArray,List.map_cons,List.map_nil,G,J,F];exact h d b ⟨M++[x],(i.imp λx q I=>f.kw I e).snoc (f.kw ha e),p⟩ e (l.grown r (λk A=>(j.own.lt k A).1))
theorem sl {P:O->List W->α->Prop}(E:Kn n T P)(u:Tryz.prog.underlying TS=U (.slice T))(hI:d8 T z n ee)(C:cQ n z.cells.toList)(k:ee<=1000){a:a6}(l:o.guard=none)(s y:Operand)
 (m:o.op= .call {callee:= .builtin .append,args:=#[s,y],argTypes:=#[TS,TS]})
 {v:W}{qs:List α}(t:a.eval s=v)(p:aP P n T w0.heap.size w v qs)(A:V w0 w)
 {g c:Nat}{x:List W}{q:α}(B:a.eval y=D (U ⟨g,0,none⟩) 1 c)(r:Bx T w g x)(ha:P w x q)(hb:qs.length<=1000000000)
 (h:∀d b,aP P n T w0.heap.size b d (qs++[q])->Ap T w b->V w0 b->bG ae aV Q rest (a.put o.dst d) b):bG ae aV Q (o::rest) a w:=
 wpList_plain l λ_ j=>zQ E u hI C k s y m t p A B r ha hb λd b e f i=>j _ _ (h d b e f i)
theorem hB {P:O->List W->α->Prop}(f:Kn n T P)(K:Tryz.prog.underlying TS=U (.slice T))(hI:d8 T z n ee)(N:cQ n z.cells.toList)(A:ee<=1000){a:a6}(B:o.guard=none)(s y:Operand)
 (F:o.op= .call {callee:= .builtin .append,args:=#[s,y],argTypes:=#[TS,TS]})
 {v:W}{qs:List α}(J:a.eval s=v)(G:aP P n T w0.heap.size w v qs)(p:V w0 w)
 {g c:Nat}{x:List W}{q:α}(M:a.eval y=D (U ⟨g,0,none⟩) 1 c)(H:Bx T w g x)(ha:P w x q)(hb:qs.length<=1000000000)
 (h:∀d b,aP P n T w0.heap.size b d (qs++[q])->Ap T w b->V w0 b->w.grownBy b v.ownBlock->(d.ownBlock=v.ownBlock\/ ∃g,d.ownBlock=U g/\w.heap.size<=g)->bG ae aV Q rest (a.put o.dst d) b):bG ae aV Q (o::rest) a w:=by
 refine wpList_plain B λ_ u=> ?_
 obtain⟨R,j,l⟩:=G;obtain⟨d,b,I,r,e,i,t⟩:=oN (ty:=o.type) (c:=c) (ad:=⟨g,0,none⟩) (m:=x) K hI N A l (λS X C=>by rw[Addr.add_lit,Nat.zero_add];exact H.cell C) (f.ok ha) (by rw[j.1];exact hb) p.size;unfold Oper.wp execOp;simp only[F,resolve,invoke,builtin,Sem.run_bind,Sem.run_pure,Result.andThen_ok,List.map_toArray,List.map_cons,List.map_nil,J,M,I];exact u _ _ (h d b ⟨R++[x],(j.imp λx q L=>f.kw L e).snoc (f.kw ha e),r⟩ e (p.grown i (λk E=>(l.own.lt k E).1)) i t)
end Go.Proofs.YtjopfpegcckllaaGreatDoor
namespace Pq
def aq:List Rat->Rat->Rat
 |[],_=>0
 |a::p,f=>a+f*aq p f
def ai:List Rat->Rat->Rat
 |[],_=>0
 |_::p,f=>aq p f+f*ai p f
def add:List Rat->List Rat->List Rat
 |[],q=>q
 |a::p,[]=>a::p
 |a::p,f::q=>(a+f)::add p q
def sc (c:Rat)(p:List Rat):List Rat:=p.map (c* .)
def mul:List Rat->List Rat->List Rat
 |[],_=>[]
 |a::p,q=>add (sc a q) (0::mul p q)
def nm:List Rat->List Rat
 |[]=>[]
 |a::p=>if a=0/\nm p=[]then[]else a::nm p
theorem oO (a:Rat):(a.den:Rat)*a=(a.num:Rat):=by
 have d:(a.num:Rat)/(a.den:Rat)=a:=by rw[<-Rat.mkRat_eq_div,Rat.mkRat_self]
 have e:(a.den:Rat)≠0:=by
  intro c;have:a.den=0:=by exact_mod_cast c
  exact a.den_nz this
 rw[Rat.mul_comm];have b:=Rat.div_mul_cancel (a:=(a.num:Rat)) e;rw[d]at b;exact b
theorem ff:∀(p q:List Rat) (x:Rat),aq (add p q) x=aq p x+aq q x
 |[],q,x=>by simp only[add,aq];grind
 |a::p,[],x=>by simp only[add,aq];grind
 |a::p,f::q,x=>by simp only[add,aq,ff p q x];grind
theorem hd (c:Rat):∀(p:List Rat) (x:Rat),aq (sc c p) x=c*aq p x
 |[],x=>by simp[sc,aq]
 |a::p,x=>by
  have:=hd c p x;unfold sc at this|-;simp only[List.map_cons,aq,this]
  grind
theorem cP:∀(p q:List Rat) (x:Rat),aq (mul p q) x=aq p x*aq q x
 |[],q,x=>by simp[mul,aq]
 |a::p,q,x=>by simp only[mul,ff,hd,aq,cP p q x];grind
theorem sm:∀(p q:List Rat) (x:Rat),aq (p++q) x=aq p x+x^p.length*aq q x
 |[],q,x=>by simp[aq,Rat.zero_add]
 |a::p,q,x=>by simp only[List.cons_append,aq,sm p q x,List.length_cons,Rat.pow_succ];grind
def bQ (p:List Rat):Prop:= ∀a∈p,a=0
theorem mr:∀{p:List Rat},bQ p-> ∀x,aq p x=0
 |[],_,x=>rfl
 |a::p,f,x=>by
  have c:a=0:=f a (by simp);have d:=mr (p:=p) (λb hb=>f b (by simp[hb])) x;simp only[aq,c,d]
  grind
theorem so:∀p:List Rat,∃d:Nat,d≠0/\ ∀n:Nat,∃z:Int,(d:Rat)*aq p (n:Rat)=(z:Rat)
 |[]=>⟨1,by omega,λn=>⟨0,by simp[aq]⟩⟩
 |a::p=>by
  obtain⟨d,c,b⟩:=so p;refine⟨d*a.den,Nat.mul_ne_zero c a.den_nz,λn=> ?_⟩;obtain⟨z,e⟩:=b n;refine⟨d*a.num+a.den*(n*z),?_⟩;have ha:(a.den:Rat)*a=(a.num:Rat):=oO a;simp only[aq]
  push_cast
  grind
theorem mu:∀(p:List Rat) (N:Nat),(∀n:Nat,N<=n->aq p (n:Rat)=0)->bQ p
 |[],N,f=>by simp[bQ]
 |a::p,N,f=>by
  obtain⟨d,u,y⟩:=so p;have ha:(a.den:Rat)*a=(a.num:Rat):=oO a
  have A:∀n:Nat,N<=n-> ∃b:Int,(d:Int)*a.num+a.den*(n*b)=0:=λn l=>by
   obtain⟨b,e⟩:=y n;refine⟨b,?_⟩;have o:=f n l;simp only[aq]at o
   have:(((d:Int)*a.num+a.den*(n*b):Int):Rat)=0:=by
    push_cast
    grind
   exact_mod_cast this
  have k:a=0:=by
   obtain⟨b,e⟩:=A (N+((d:Int)*a.num).natAbs+1) (by omega)
   have z:b=0:=by
    apply Classical.byContradiction;intro F;obtain⟨c,t⟩:∃c,(d:Int)*a.num=c:=⟨_,rfl⟩;rw[t]at e
    have B:c.natAbs=a.den*((N+c.natAbs+1)*b.natAbs):=by
     have:c= -(a.den*(((N+c.natAbs+1:Nat):Int)*b)):=by omega
     have j:=congrArg Int.natAbs this;rw[Int.natAbs_neg,Int.natAbs_mul,Int.natAbs_mul,Int.natAbs_natCast,Int.natAbs_natCast]at j;exact j
    have r:1<=b.natAbs:=by omega
    have s:1<=a.den:=a.den_pos;have C:N+c.natAbs+1<=(N+c.natAbs+1)*b.natAbs:=Nat.le_mul_of_pos_right _ r;have D:(N+c.natAbs+1)*b.natAbs<=a.den*((N+c.natAbs+1)*b.natAbs):=Nat.le_mul_of_pos_left _ s;omega
   subst z;have q:(d:Int)*a.num=0:=by simpa using e
   rcases Int.mul_eq_zero.1 q with i|i
   .exact absurd (by omega) u
   .exact Rat.num_eq_zero.1 i
  have x:=mu p (N+1) (λn l=>by
   have:=f n (by omega);simp only[aq,k]at this
   have v:(n:Rat)≠0:=by
    intro e;have:n=0:=by exact_mod_cast e
    omega
   have:(n:Rat)*aq p (n:Rat)=0:=by grind
   rcases Rat.mul_eq_zero.1 this with g|g
   .exact absurd g v
   .exact g)
  intro m hb;rcases List.mem_cons.1 hb with rfl|hb
  .exact k
  .exact x m hb
theorem km:∀p:List Rat,nm p=[]↔bQ p
 |[]=>by simp[nm,bQ]
 |a::p=>by
  have ih:=km p;unfold nm;constructor
  .intro b
   split at b
   .rename_i d
    intro c hb;rcases List.mem_cons.1 hb with rfl|hb
    .exact d.1
    .exact ih.1 d.2 c hb
   .cases b
  .intro b;rw[if_pos ⟨b a (by simp),ih.2 (λc hb=>b c (by simp[hb]))⟩]
theorem d9:∀(p:List Rat) (x:Rat),aq (nm p) x=aq p x
 |[],x=>rfl
 |a::p,x=>by
  have ih:=d9 p x;unfold nm
  split
  .rename_i b
   have:=mr ((km p).1 b.2) x;simp only[aq,b.1,this]
   grind
  .simp only[aq,ih]
theorem sp:∀p:List Rat,(nm p).length<=p.length
 |[]=>a8 _
 |a::p=>by
  have:=sp p;unfold nm
  split<;>simp<;>omega
theorem jr:∀p:List Rat,nm (nm p)=nm p
 |[]=>rfl
 |a::p=>by
  have ih:=jr p
  by_cases c:a=0/\nm p=[]
  .have b:nm (a::p)=[]:=by unfold nm;rw[if_pos c]
   rw[b];rfl
  .have b:nm (a::p)=a::nm p:=by conv=>lhs;unfold nm;rw[if_neg c]
   rw[b];show(if a=0/\nm (nm p)=[]then[]else a::nm (nm p))=a::nm p;rw[ih,if_neg c]
theorem ge:∀{p q:List Rat},(∀x,aq p x=aq q x)->nm p=nm q
 |[],q,f=>by
  have:bQ q:=mu q 0 (λb _=>by rw[<-f];rfl);rw[(km q).2 this];rfl
 |a::p,[],f=>by
  have:bQ (a::p):=mu _ 0 (λb _=>by rw[f];rfl);rw[(km _).2 this];rfl
 |a::p,m::q,f=>by
  have g:a=m:=by
   have:=f 0;simp only[aq]at this
   grind
  subst g
  have j:bQ (add p (sc (-1) q)):=mu _ 1 (λb k=>by
   have:=f b;simp only[aq]at this
   have i:(b:Rat)≠0:=by
    intro d;have:b=0:=by exact_mod_cast d
    omega
   have e:(b:Rat)*(aq p b-aq q b)=0:=by grind
   rw[ff,hd];rcases Rat.mul_eq_zero.1 e with c|c
   .exact absurd c i
   .grind)
  have ih:=ge (p:=p) (q:=q) (λx=>by
   have:=mr j x;rw[ff,hd]at this
   grind)
  unfold nm;rw[ih]
theorem oP:∀(o:List Rat) (j:Nat) (y:Rat) (x:Rat),j<o.length->aq (o.set j (o.getD j 0+y)) x=aq o x+x^j*y
 |[],j,y,x,f=>by simp at f
 |a::o,0,y,x,f=>by simp[aq];grind
 |a::o,j+1,y,x,f=>by
  have:=oP o j y x (by simpa using f);simp only[List.getD_cons_succ,List.set_cons_succ,aq,this,Rat.pow_succ]
  grind
theorem sr (n:Nat)(x:Rat):aq (bA n 0) x=0:=mr (λ_ ha=>(List.mem_replicate.1 ha).2) x
theorem ss (h:k<p.length)(x:Rat):aq (p.take (k+1)) x=aq (p.take k) x+x^k*p[k]:=by
 rw[List.take_succ_eq_append_getElem h,sm];simp only[aq,List.length_take,Nat.min_eq_left (Nat.le_of_lt h)]
 grind
theorem su (p:List Rat):sc 1 p=p:=by
 unfold sc
 induction p with
 |nil=>rfl
 |cons a p ih=>rw[List.map_cons,ih,Rat.one_mul]
theorem oQ:∀{p:List Rat} {n:Nat},n<=p.length->(∀i,n<=i->p.getD i 0=0)->(n=0\/p.getD (n-1) 0≠0)->nm p=p.take n
 |[],n,_,_,_=>by simp[nm]
 |a::p,0,_,m,_=>by
  rw[(km (a::p)).2]
  .rfl
  .intro q hb;obtain⟨i,d,rfl⟩:=List.getElem_of_mem hb;have:=m i (bn _)
   simpa[bz,aT d]using this
 |a::p,n+1,A,m,f=>by
  have l:n<=p.length:=by simpa using A
  have e:∀i,n<=i->p.getD i 0=0:=λi d=>by
   have:=m (i+1) (by omega)
   simpa using this
  by_cases g:n=0
  .subst g
   have ha:a≠0:=by
    rcases f with f|f
    .omega
    .simpa using f
   have ih:=oQ (p:=p) (n:=0) (bn _) e (.inl rfl);show(if a=0/\nm p=[]then[]else a::nm p)=a::p.take 0;rw[if_neg (λc=>ha c.1),ih]
  .have j:p.getD (n-1) 0≠0:=by
    rcases f with f|f
    .omega
    .have b:n+1-1=(n-1)+1:=by omega
     rw[b]at f
     simpa using f
   have ih:=oQ (p:=p) (n:=n) l e (.inr j)
   have o:nm p≠[]:=by
    rw[ih];intro b;have k:(p.take n).length=0:=by rw[b];rfl
    rw[List.length_take]at k;omega
   show(if a=0/\nm p=[]then[]else a::nm p)=a::p.take n;rw[if_neg (λc=>o c.2),ih]
theorem oR (h:i<p.length):p.getD i 0=p[i]:=by simp[bz,aT h]
end Pq
namespace Pq
def zip:List Rat->List Rat->List Rat
 |a::p,f::q=>(a+f)::zip p q
 |_,_=>[]
def zt (p q:List Rat)(j:Nat):List Rat:=(List.range p.length).map (λa=>if a<j then p.getD a 0+q.getD a 0 else p.getD a 0)
theorem sv (p q:List Rat)(j:Nat):(zt p q j).length=p.length:=by simp[zt]
def sub (p q:List Rat):List Rat:=add p (sc (-1) q)
end Pq
namespace Pq
def bR (x:Rat)(q:List Rat)(i:Nat):Nat->List Rat->List Rat
 |0,o=>o
 |f+1,o=>(bR x q i f o).set (i+f) ((bR x q i f o).getD (i+f) 0+x*q.getD f 0)
def fS (p q:List Rat):Nat->List Rat
 |0=>bA (p.length+q.length) 0
 |f+1=>bR (p.getD f 0) q f q.length (fS p q f)
theorem iZ (x:Rat)(q:List Rat)(i:Nat):∀(j:Nat) (o:List Rat),(bR x q i j o).length=o.length
 |0,o=>rfl
 |j+1,o=>by rw[bR,List.length_set,iZ x q i j o]
theorem sx (p q:List Rat):∀i,(fS p q i).length=p.length+q.length
 |0=>by simp[fS]
 |i+1=>by rw[fS,iZ,sx p q i]
theorem zR (o:List Rat)(n:Nat):o.set n (o.getD n 0)=o:=by
 apply List.ext_getElem (by simp);intro d c b;rw[List.getElem_set]
 split
 .rename_i a;subst a;simp[bz,aT b]
 .rfl
theorem oS (q:List Rat)(i:Nat):∀(j:Nat) (o:List Rat),bR 0 q i j o=o
 |0,o=>rfl
 |j+1,o=>by rw[bR,oS q i j o,Rat.zero_mul,Rat.add_zero,zR]
theorem sy (t:Rat)(i:Nat):∀j,t^(i+j)=t^i*t^j
 |0=>by rw[Nat.add_zero,Rat.pow_zero,Rat.mul_one]
 |j+1=>by rw[<-Nat.add_assoc,Rat.pow_succ,Rat.pow_succ,sy t i j,Rat.mul_assoc]
theorem oT (x:Rat)(q:List Rat)(i:Nat)(t:Rat):∀(j:Nat) (o:List Rat),i+j<=o.length->j<=q.length->aq (bR x q i j o) t=aq o t+t^i*(x*aq (q.take j) t)
 |0,o,_,_=>by simp only[bR,List.take_zero,aq];grind
 |j+1,o,f,m=>by
  have ih:=oT x q i t j o (by omega) (by omega);have a:j<q.length:=by omega
  rw[bR,oP _ _ _ _ (by rw[iZ];omega),ih,ss a,sy];have b:q.getD j 0=q[j]:=by simp[bz,aT a]
  rw[b]
  grind
theorem sA (p q:List Rat)(t:Rat):∀i,i<=p.length->aq (fS p q i) t=aq (p.take i) t*aq q t
 |0,_=>by rw[fS,sr];simp[aq]
 |i+1,f=>by
  have a:i<p.length:=by omega
  have b:p.getD i 0=p[i]:=by simp[bz,aT a]
  rw[fS,oT _ _ _ _ _ _ (by rw[sx];omega) (a8 _),sA p q t i (by omega),ss a,co,b]
  grind
theorem zS (p q:List Rat):nm (fS p q p.length)=nm (mul p q):=ge λa=>by
 rw[sA p q a _ (a8 _),co,cP]
def Cm (d N:Nat)(v:Rat):Prop:= ∃a:Int,v*(d:Rat)=(a:Rat)/\a.natAbs<=N
theorem Cm.zero (d N:Nat):Cm d N 0:=⟨0,by rw[Rat.zero_mul];rfl,by simp⟩
theorem Cm.mono {v:Rat}(h:Cm d N v)(a:N<=M):Cm d M v:=by obtain⟨n,h1,h2⟩:=h;exact⟨n,h1,aQ h2 a⟩
theorem Cm.add {a b:Rat}(h:Cm d N a)(k:Cm d M b):Cm d (N+M) (a+b):=by
 obtain⟨n,h1,h2⟩:=h;obtain⟨c,k1,k2⟩:=k;refine⟨n+c,?_,by omega⟩;rw[Rat.add_mul,h1,k1];push_cast;rfl
theorem Cm.neg {a:Rat}(h:Cm d N a):Cm d N (-a):=by
 obtain⟨n,h1,h2⟩:=h;refine⟨-n,?_,by omega⟩;rw[Rat.neg_mul,h1];push_cast;rfl
theorem Cm.sub {a b:Rat}(h:Cm d N a)(k:Cm d M b):Cm d (N+M) (a-b):=by rw[Rat.sub_eq_add_neg];exact h.add k.neg
theorem Cm.mul {a b:Rat}(h:Cm d N a)(k:Cm e M b):Cm (d*e) (N*M) (a*b):=by
 obtain⟨n,h1,h2⟩:=h;obtain⟨c,k1,k2⟩:=k;refine⟨n*c,?_,by rw[Int.natAbs_mul];exact Nat.mul_le_mul h2 k2⟩
 push_cast
 rw[<-h1,<-k1];grind
theorem Cm.up {a:Rat}(h:Cm d N a)(c:Nat):Cm (d*c) (N*c) a:=by
 obtain⟨n,h1,h2⟩:=h;refine⟨n*c,?_,by rw[Int.natAbs_mul,Int.natAbs_natCast];exact Nat.mul_le_mul_right _ h2⟩
 push_cast
 rw[<-h1];grind
theorem Cm.self (q:Rat):Cm q.den q.num.natAbs q:=⟨q.num,by rw[Rat.mul_comm];exact oO q,a8 _⟩
theorem Cm.eq {v:Rat}(h:Cm d N v)(a:d≠0):∃n:Int,v=mkRat n d/\n.natAbs<=N:=by
 obtain⟨n,h1,h2⟩:=h;refine⟨n,?_,h2⟩
 have b:(d:Rat)≠0:=by
  intro e;exact a (by exact_mod_cast e)
 rw[Rat.mkRat_eq_div,<-h1,Rat.div_def,Rat.mul_assoc,Rat.mul_inv_cancel _ b,Rat.mul_one]
theorem Cm.lq {v:Rat}(h:Cm d N v)(a:d≠0)(h1:d<E.B^k)(h2:N<E.B^k)(b:1<=k):E.Lq v k:=by
 obtain⟨n,rfl,c⟩:=h.eq a;exact E.Lq.mk (E.nV (Nat.lt_of_le_of_lt c h2)) (E.nV h1) b
def Lp (p:List Rat)(k:Nat):Prop:= ∃a:Nat,a≠0/\a<E.B^k/\ ∃b:Nat,b<E.B^k/\ ∀q∈p,Cm a b q
end Pq
namespace Pq
theorem zT (k:Nat):0<E.B^k:=Nat.pow_pos E.b0
theorem gQ {b:Nat}(h1:x<b^j)(h2:y<b^k):x*y<b^(j+k):=by
 rw[Nat.pow_add];exact Nat.lt_of_le_of_lt (Nat.mul_le_mul_left _ (Nat.le_of_lt h2)) (Nat.mul_lt_mul_of_pos_right h1 (Nat.lt_of_le_of_lt (bn _) h2))
theorem zU {b:Nat}(hb:2<=b)(h1:x<b^k)(h2:y<b^k):x+y<b^(k+1):=by
 rw[Nat.pow_succ];have:b^k*2<=b^k*b:=Nat.mul_le_mul_left _ hb;omega
theorem B2:2<=E.B:=by rw[E.bL];omega
theorem Lp.mono (h:Lp p j)(e:j<=k):Lp p k:=by
 obtain⟨d,h1,h2,a,b,c⟩:=h;have:=Nat.pow_le_pow_right E.b0 e;exact⟨d,h1,Nat.lt_of_lt_of_le h2 this,a,Nat.lt_of_lt_of_le b this,c⟩
theorem Lp.one_le (h:Lp p k):1<=k:=by
 obtain⟨d,h1,h2,_⟩:=h;rcases Nat.eq_zero_or_pos k with rfl|a
 .rw[Nat.pow_zero]at h2;omega
 .exact a
theorem Lp.lq {p:List Rat}{k:Nat}(h:Lp p k):∀q∈p,E.Lq q k:=by
 have c:=h.one_le;obtain⟨d,h1,h2,f,a,b⟩:=h;exact λq e=>(b q e).lq h1 h2 a c
theorem Lp.sub (h:Lp p k)(e:∀x∈q,x∈p):Lp q k:=by
 obtain⟨d,h1,h2,a,b,c⟩:=h;exact⟨d,h1,h2,a,b,λx f=>c x (e x f)⟩
theorem Lp.nil:Lp [] 1:=⟨1,by omega,by have:=B2;rw[Nat.pow_one];omega,0,zT 1,by simp⟩
theorem Lp.cons {a:Rat}(h:E.Lq a j)(i:Lp p k):Lp (a::p) (j+k):=by
 obtain⟨d,h1,h2,c,l,m⟩:=i;have ha:a.num.natAbs<E.B^j:=E.eo.1 h.1;have f:a.den<E.B^j:=E.eo.1 h.2;refine⟨a.den*d,Nat.mul_ne_zero a.den_nz h1,gQ f h2,max (a.num.natAbs*d) (c*a.den),?_,λq b=> ?_⟩
 .have g:=gQ ha h2;have e:=gQ l f;rw[Nat.add_comm k j]at e;exact Nat.max_lt.2 ⟨g,e⟩
 .rcases List.mem_cons.1 b with rfl|b
  .exact((Cm.self q).up d).mono (Nat.le_max_left _ _)
  .have:=((m q b).up a.den).mono (Nat.le_max_right (a.num.natAbs*d) (c*a.den))
   rwa [Nat.mul_comm d]at this
theorem Lp.bd {k:Nat}:∀{p:List Rat},(∀q∈p,E.Lq q k)->Lp p (p.length*k+1)
 |[],_=>Lp.nil.mono (by omega)
 |a::p,h=>by
  have:=(h a (by simp)).pos;refine(Lp.cons (h a (by simp)) (Lp.bd (p:=p) (λq b=>h q (by simp[b])))).mono ?_;rw[List.length_cons,Nat.succ_mul];omega
theorem sB:∀{p:List Rat} {x:Rat},x∈nm p->x∈p
 |[],x,h=>h
 |a::p,x,h=>by
  unfold nm at h
  split at h
  .simp at h
  .rcases List.mem_cons.1 h with rfl|h
   .simp
   .exact List.mem_cons_of_mem _ (sB h)
theorem Lp.nm {p:List Rat}{k:Nat}(h:Lp p k):Lp (nm p) k:=h.sub λ_ a=>sB a
theorem Lp.sc {c:Rat}{p:List Rat}{j k:Nat}(h:E.Lq c j)(b:Lp p k):Lp (sc c p) (j+k):=by
 obtain⟨d,h1,h2,a,e,f⟩:=b;have ha:c.num.natAbs<E.B^j:=E.eo.1 h.1;have g:c.den<E.B^j:=E.eo.1 h.2;refine⟨c.den*d,Nat.mul_ne_zero c.den_nz h1,gQ g h2,c.num.natAbs*a,gQ ha e,λq i=> ?_⟩;obtain⟨y,l,rfl⟩:=List.mem_map.1 i;exact(Cm.self c).mul (f y l)
theorem ie (h:∀q∈p,Cm d N q)(i:Nat):Cm d N (p.getD i 0):=by
 by_cases a:i<p.length
 .rw[bz,aT a];exact h _ (cq a)
 .rw[bz,List.getElem?_eq_none (by omega)];exact Cm.zero d N
theorem sC:∀{p q:List Rat} {x:Rat},x∈add p q-> ∃i,x=p.getD i 0+q.getD i 0
 |[],q,x,h=>by
  obtain⟨i,b,rfl⟩:=List.getElem_of_mem (show x∈q from h);exact⟨i,by simp[bz,aT b,Rat.zero_add]⟩
 |a::p,[],x,h=>by
  obtain⟨i,b,rfl⟩:=List.getElem_of_mem (show x∈a::p from h);exact⟨i,by simp only[bz,aT b];simp[Rat.add_zero]⟩
 |a::p,f::q,x,h=>by
  rcases List.mem_cons.1 (show x∈(a+f)::add p q from h)with rfl|h
  .exact⟨0,by simp⟩
  .obtain⟨i,c⟩:=sC h;exact⟨i+1,by simpa using c⟩
theorem Lp.add {p q:List Rat}{j k:Nat}(h:Lp p j)(g:Lp q k):Lp (add p q) (j+k+1):=by
 obtain⟨d,h1,h2,f,l,m⟩:=h;obtain⟨e,k1,k2,c,o,r⟩:=g;refine⟨d*e,Nat.mul_ne_zero h1 k1,Nat.lt_of_lt_of_le (gQ h2 k2) (Nat.pow_le_pow_right E.b0 (by omega)),f*e+c*d,?_,λx n=> ?_⟩
 .have b:=gQ l k2;have a:=gQ o h2;rw[Nat.add_comm k j]at a;exact zU B2 b a
 .obtain⟨i,rfl⟩:=sC n;have b:=(ie m i).up e;have a:=(ie r i).up d;rw[Nat.mul_comm e d]at a;exact b.add a
theorem oU {d N M:Nat}{x:Rat}{q:List Rat}{i:Nat}(c:∀k,Cm d M (x*q.getD k 0)):∀(j:Nat) (o:List Rat),(∀n,Cm d N (o.getD n 0))-> ∀n,Cm d (if n<i+j/\i<=n then N+M else N) ((bR x q i j o).getD n 0)
 |0,o,f,n=>by
  rw[bR,if_neg (by omega)];exact f n
 |j+1,o,f,n=>by
  have ih:=oU (i:=i) c j o f;rw[bR,bz,List.getElem?_set]
  by_cases b:i+j=n
  .subst b;rw[if_pos rfl,if_pos (by omega)];have a:=ih (i+j);rw[if_neg (by omega)]at a
   split
   .exact a.add (c j)
   .exact Cm.zero _ _
  .rw[if_neg b,<-bz];have a:=ih n
   split
   .rename_i e
    exact a.mono (by split<;>omega)
   .rename_i e
    rwa [if_neg (by omega)]at a
theorem sD {d e N M:Nat}{p q:List Rat}(a:∀x∈p,Cm d N x)(b:∀x∈q,Cm e M x):∀i n,Cm (d*e) (i*(N*M)) ((fS p q i).getD n 0)
 |0,n=>by
  rw[fS,bz,List.getElem?_replicate]
  split<;>exact Cm.zero _ _
 |i+1,n=>by
  have:=oU (x:=p.getD i 0) (q:=q) (i:=i) (λk=>(ie a i).mul (ie b k)) q.length _ (sD a b i) n;exact this.mono (by rw[Nat.succ_mul];split<;>omega)
theorem zV {b:Nat}(a:c<=b)(h:x<b^k)(h0:0<b):c*x<b^(k+1):=by
 rw[Nat.pow_succ,Nat.mul_comm];exact Nat.lt_of_le_of_lt (Nat.mul_le_mul_left _ a) (Nat.mul_lt_mul_of_pos_right h h0)
theorem Lp.fS {p q:List Rat}{j k:Nat}(h:Lp p j)(c:Lp q k)(r:p.length<=100000000):Lp (fS p q p.length) (j+k+1):=by
 obtain⟨d,h1,h2,b,f,g⟩:=h;obtain⟨e,k1,k2,a,m,o⟩:=c;have hb:p.length<=E.B:=by rw[E.bL];omega
 refine⟨d*e,Nat.mul_ne_zero h1 k1,Nat.lt_of_lt_of_le (gQ h2 k2) (Nat.pow_le_pow_right E.b0 (by omega)),p.length*(b*a),zV hb (gQ f m) E.b0,λx l=> ?_⟩;obtain⟨n,i,rfl⟩:=List.getElem_of_mem l;have:=sD g o p.length n
 rwa [bz,aT i]at this
theorem Lp.mul {p q:List Rat}{j k:Nat}(h:Lp p j)(a:Lp q k)(b:p.length<=100000000):Lp (Pq.nm (mul p q)) (j+k+1):=by
 rw[<-zS];exact(h.fS a b).nm
end Pq
namespace Pq
theorem mv:∀p q:List Rat,(add p q).length=max p.length q.length
 |[],q=>by simp[add]
 |a::p,[]=>by simp[add]
 |a::p,f::q=>by simp[add,mv p q]
theorem oV:∀(p q:List Rat) (i:Nat),(add p q).getD i 0=p.getD i 0+q.getD i 0
 |[],q,i=>by simp[add,Rat.zero_add]
 |a::p,[],i=>by simp[add,Rat.add_zero]
 |a::p,f::q,0=>by simp[add]
 |a::p,f::q,i+1=>by simpa[add]using oV p q i
theorem mw (c:Rat)(p:List Rat):(sc c p).length=p.length:=by simp[sc]
theorem sG (c:Rat)(p:List Rat)(i:Nat):(sc c p).getD i 0=c*p.getD i 0:=by
 by_cases a:i<p.length
 .simp[sc,bz,aT a]
 .simp[sc,bz,List.getElem?_eq_none (Nat.le_of_not_lt a)]
theorem oW (h:p.length<=i):p.getD i 0=0:=by simp[bz,List.getElem?_eq_none h]
theorem js:∀(p q:List Rat),p≠[]->q≠[]->(mul p q).length+1=p.length+q.length
 |[],q,A,_=>absurd rfl A
 |[a],q,_,f=>by
  have:=List.length_pos_iff.2 f;simp only[mul,mv,mw,List.length_cons,List.length_nil];omega
 |a::m::p,q,_,f=>by
  have:=List.length_pos_iff.2 f;have ih:=js (m::p) q (by simp) f;rw[mul,mv,mw];simp only[List.length_cons]at ih|-;omega
theorem oX:∀(p q:List Rat),p≠[]->q≠[]->(mul p q).getD (p.length-1+(q.length-1)) 0=p.getD (p.length-1) 0*q.getD (q.length-1) 0
 |[],q,A,_=>absurd rfl A
 |[a],q,_,m=>by
  rw[mul,oV,sG,mul]
  have b:(([0]:List Rat)).getD (([a]:List Rat).length-1+(q.length-1)) 0=0:=by
   cases A:([a]:List Rat).length-1+(q.length-1)<;>simp
  rw[b,Rat.add_zero];simp
 |a::f::p,q,_,m=>by
  have e:=List.length_pos_iff.2 m;have ih:=oX (f::p) q (by simp) m;rw[mul,oV,sG];have c:(a::f::p).length-1+(q.length-1)=((f::p).length-1+(q.length-1))+1:=by simp only[List.length_cons];omega
  have d:(a::f::p).length-1=((f::p).length-1)+1:=by simp only[List.length_cons];omega
  rw[c,oW (p:=q) (by simp only[List.length_cons];omega),d,List.getD_cons_succ,List.getD_cons_succ,ih,Rat.mul_zero,Rat.zero_add]
def Tr (p:List Rat):Prop:=p=[]\/p.getD (p.length-1) 0≠0
theorem eV (h:Tr p):nm p=p:=by
 have:=oQ (p:=p) (n:=p.length) (a8 _) (λb a=>oW a) (by
  rcases h with rfl|h
  .exact .inl rfl
  .exact .inr h)
 rwa [co]at this
theorem sH:∀{p:List Rat},nm p=p->Tr p
 |[],_=> .inl rfl
 |[a],m=>by
  refine .inr ?_;simp only[nm]at m
  split at m
  .cases m
  .rename_i g
   simpa using g
 |a::f::p,m=>by
  have e:nm (f::p)=f::p:=by
   have b:(if a=0/\nm (f::p)=[]then[]else a::nm (f::p))=a::f::p:=m
   split at b
   .cases b
   .exact(List.cons.inj b).2
  rcases sH e with c|c
  .cases c
  .refine .inr ?_;have d:(a::f::p).length-1=((f::p).length-1)+1:=by simp only[List.length_cons];omega
   rw[d,List.getD_cons_succ];exact c
theorem hC (p:List Rat):Tr (nm p):=sH (jr p)
theorem zW (c:Tr p)(d:Tr q)(h1:p≠[])(h2:q≠[]):Tr (mul p q)/\mul p q≠[]:=by
 have b:=js p q h1 h2;have f:=List.length_pos_iff.2 h1;have g:=List.length_pos_iff.2 h2;have ne:mul p q≠[]:=by intro e;rw[e]at b;simp at b;omega
 refine⟨.inr ?_,ne⟩;rw[show(mul p q).length-1=p.length-1+(q.length-1)by omega,oX p q h1 h2];intro e;rcases Rat.mul_eq_zero.1 e with e|e
 .exact c.elim h1 (λa=>a e)
 .exact d.elim h2 (λa=>a e)
theorem my (a:Tr p)(b:Tr q)(h1:p≠[])(h2:q≠[]):nm (mul p q)=mul p q:=eV (zW a b h1 h2).1
theorem mA (a:Tr p)(b:Tr q)(h:∀x,aq p x=aq q x):p=q:=by
 have:=ge h
 rwa [eV a,eV b]at this
theorem i0 (h:∀x,aq p x=0):nm p=[]:=ge (q:=[]) (λx=>by rw[h];rfl)
theorem gR (x:Rat):aq [] x=0:=rfl
theorem i3 (h:nm p=[])(x:Rat):aq p x=0:=by rw[<-d9,h];rfl
def ig (a b q r:List Rat):Prop:=(∀c,aq a c=aq q c*aq b c+aq r c)/\(nm r).length<(nm b).length
theorem ig.unique {r fc iN:List Rat}(h:ig a b q r)(c:ig a b fc iN):nm q=nm fc/\nm r=nm iN:=by
 have hb:nm b≠[]:=by intro e;have:=h.2;rw[e]at this;simp at this
 have j:nm (add q (sc (-1) fc))=[]:=by
  apply Classical.byContradiction;intro d
  have e:nm (mul (nm (add q (sc (-1) fc))) (nm b))=nm (add (nm iN) (sc (-1) (nm r))):=ge λx=>by
   have f:=h.1 x;have i:=c.1 x;rw[cP,d9,d9,ff,hd,ff,hd,d9,d9]
   grind
  rw[my (hC _) (hC _) d hb]at e;have l1:=js _ _ d hb;have l2:=sp (add (nm iN) (sc (-1) (nm r)));rw[mv,mw]at l2;rw[e]at l1;have l3:=List.length_pos_iff.2 d;have:=h.2;have:=c.2;omega
 have g:∀x,aq q x=aq fc x:=λx=>by
  have:=i3 j x;rw[ff,hd]at this
  grind
 refine⟨ge g,ge λx=> ?_⟩;have f:=h.1 x;have i:=c.1 x;rw[g]at f
 grind
def Dv (g a:List Rat):Prop:= ∃c,∀b,aq a b=aq c b*aq g b
def In (a b c:List Rat):Prop:= ∃e f,∀d,aq c d=aq e d*aq a d+aq f d*aq b d
def ii (a b c d:List Rat):Prop:=In a b c/\In a b d/\In c d a/\In c d b
theorem In.trans {kn h6 c:List Rat}(h1:In a b kn)(h2:In a b h6)(h:In kn h6 c):In a b c:=by
 obtain⟨s1,t1,d⟩:=h1;obtain⟨s2,t2,f⟩:=h2;obtain⟨s,t,e⟩:=h;refine⟨add (mul s s1) (mul t s2),add (mul s t1) (mul t t2),λx=> ?_⟩;rw[e,d,f];simp only[ff,cP]
 grind
theorem ko (x:Rat):aq [1] x=1:=by simp only[aq];grind
theorem In.fst (a b:List Rat):In a b a:=⟨[1],[],λx=>by rw[ko,gR];grind⟩
theorem In.snd (a b:List Rat):In a b b:=⟨[],[1],λx=>by rw[ko,gR];grind⟩
theorem ii.refl (a b:List Rat):ii a b a b:=⟨.fst a b,.snd a b,.fst a b,.snd a b⟩
theorem ii.trans {a b kn h6 sI sJ:List Rat}(h:ii a b kn h6)(k:ii kn h6 sI sJ):ii a b sI sJ:=
 ⟨h.1.trans h.2.1 k.1,h.1.trans h.2.1 k.2.1,k.2.2.1.trans k.2.2.2 h.2.2.1,k.2.2.1.trans k.2.2.2 h.2.2.2⟩
theorem ii.step {r:List Rat}(h:∀x,aq a x=aq q x*aq b x+aq r x):ii a b b r:=by
 refine⟨.snd a b,⟨[1],sc (-1) q,λx=> ?_⟩,⟨q,[1],λx=> ?_⟩,.fst b r⟩
 .rw[ko,hd,h];grind
 .rw[ko,h];grind
def Mo (g:List Rat):Prop:=g=[]\/g.getD (g.length-1) 0=1
theorem Mo.tr {g:List Rat}(h:Mo g):Tr g:=by
 rcases h with h|h
 .exact .inl h
 .exact .inr (by rw[h];decide)
def gS (a b g:List Rat):Prop:=Mo g/\Dv g a/\Dv g b/\In a b g
theorem Dv.wq {g c:List Rat}(h1:Dv g a)(h2:Dv g b)(h:In a b c):Dv g c:=by
 obtain⟨u,d⟩:=h1;obtain⟨v,f⟩:=h2;obtain⟨s,t,e⟩:=h;refine⟨add (mul s u) (mul t v),λx=> ?_⟩;rw[e,d,f,ff,cP,cP];grind
theorem Dv.len {g:List Rat}(h:Dv g a)(i:Tr g)(ha:nm a≠[]):g.length<=(nm a).length:=by
 obtain⟨u,e⟩:=h;have c:nm u≠[]:=λb=>ha (i0 λx=>by rw[e,i3 b,Rat.zero_mul])
 have d:g≠[]:=λb=>ha (i0 λx=>by rw[e,b,gR,Rat.mul_zero])
 have f:nm a=nm (mul (nm u) g):=ge λx=>by rw[e,cP,d9]
 rw[f,my (hC u) i c d];have:=js (nm u) g c d;have:=List.length_pos_iff.2 c;omega
theorem Mo.unique {g h:List Rat}(b:Mo g)(a:Mo h)(h1:Dv g h)(h2:Dv h g):g=h:=by
 by_cases d:g=[]
 .subst d;obtain⟨u,e⟩:=h1;exact(mA b.tr a.tr λx=>by rw[e,gR,Rat.mul_zero])
 by_cases i:h=[]
 .subst i;obtain⟨u,e⟩:=h2;exact(mA b.tr a.tr λx=>by rw[e,gR,Rat.mul_zero])
 have l1:=h1.len b.tr (by rw[eV a.tr];exact i);have l2:=h2.len a.tr (by rw[eV b.tr];exact d);rw[eV a.tr]at l1;rw[eV b.tr]at l2;obtain⟨u,e⟩:=h1;have j:nm u≠[]:=λk=>i (by rw[<-eV a.tr];exact i0 λx=>by rw[e,i3 k,Rat.zero_mul])
 have l:h=mul (nm u) g:=by
  have:nm h=nm (mul (nm u) g):=ge λx=>by rw[e,cP,d9]
  rwa [eV a.tr,my (hC u) b.tr j d]at this
 have l3:=js (nm u) g j d;have f:=oX (nm u) g j d;rw[<-l]at l3 f;have q:=List.length_pos_iff.2 j;have m:(nm u).length=1:=by omega
 have n:g.getD (g.length-1) 0=1:=b.elim (λk=>absurd k d) id;have o:h.getD (h.length-1) 0=1:=a.elim (λk=>absurd k i) id;rw[m,show 1-1+(g.length-1)=h.length-1 by omega,o,n,Rat.mul_one]at f
 match p:nm u,m with
 |[c],_=>
  rw[p]at f l;simp at f;subst f;refine mA b.tr a.tr λx=> ?_
  rw[l,cP,ko,Rat.one_mul]
theorem gS.unique {a b g h:List Rat}(c:gS a b g)(d:gS a b h):g=h:=
 c.1.unique d.1 (Dv.wq c.2.1 c.2.2.1 d.2.2.2) (Dv.wq d.2.1 d.2.2.1 c.2.2.2)
theorem gS.nil {g:List Rat}(h:gS a b g)(ha:nm a=[])(hb:nm b=[]):g=[]:=by
 obtain⟨h1,_,_,s,t,e⟩:=h;rw[<-eV h1.tr];exact i0 λx=>by rw[e,i3 ha,i3 hb];grind
theorem gS.ne {g:List Rat}(h:gS a b g)(d:nm a≠[]\/nm b≠[]):g≠[]:=by
 rintro rfl;obtain⟨_,⟨u,h2⟩,⟨v,c⟩,_⟩:=h;rcases d with k|k
 .exact k (i0 λx=>by rw[h2,gR,Rat.mul_zero])
 .exact k (i0 λx=>by rw[c,gR,Rat.mul_zero])
theorem ig.exact {a g q r:List Rat}(h:ig a g q r)(b:Dv g a):nm r=[]:=by
 obtain⟨u,e⟩:=b;have hb:0<(nm g).length:=by have:=h.2;omega
 have:ig a g u []:=⟨λx=>by rw[e,gR,Rat.add_zero],by simpa[nm]using hb⟩;exact(h.unique this).2
theorem gS.times {g z h k:List Rat}(m:gS a b g){sK ro sL:List Rat}(h1:∀x,aq sK x=aq a x*aq z x)(h2:∀x,aq ro x=aq b x*aq z x)(d:∀x,aq sL x=aq g x*aq z x)(n:gS sK ro h)(c:gS sL [] k):h=k:=by
 obtain⟨_,⟨u,i⟩,⟨v,j⟩,s,t,l⟩:=m;refine n.unique ⟨c.1,?_,?_,?_⟩
 .obtain⟨w,e⟩:=c.2.1;exact⟨mul u w,λx=>by rw[h1,i,cP];have:=e x;rw[d]at this;grind⟩
 .obtain⟨w,e⟩:=c.2.1;exact⟨mul v w,λx=>by rw[h2,j,cP];have:=e x;rw[d]at this;grind⟩
 .obtain⟨f,o,e⟩:=c.2.2.2;exact⟨mul f s,mul f t,λx=>by rw[e,d,l,h1,h2,gR,cP,cP];grind⟩
end Pq
namespace Pq
theorem sM (x:Rat)(q:List Rat)(i:Nat):∀(j:Nat) (o:List Rat) (n:Nat),i+j<=o.length->(bR x q i j o).getD n 0=o.getD n 0+(if i<=n/\n<i+j then x*q.getD (n-i) 0 else 0)
 |0,o,n,_=>by rw[bR,if_neg (by omega),Rat.add_zero]
 |j+1,o,n,f=>by
  have ih:=sM x q i j o;rw[bR,bz,List.getElem?_set]
  by_cases a:i+j=n
  .subst a;rw[if_pos rfl,if_pos (by rw[iZ];omega),if_pos (by omega),Option.getD_some,ih _ (by omega),if_neg (by omega),Rat.add_zero]
   congr 3;omega
  .rw[if_neg a,<-bz,ih _ (by omega)]
   by_cases b:i<=n/\n<i+j
   .rw[if_pos b,if_pos (by omega)]
   .rw[if_neg b,if_neg (by omega)]
def fT (a b:List Rat)(r:List Rat)(s:Nat):Rat:=r.getD (a.length-1-s) 0/b.getD (b.length-1) 0
def dst (a b:List Rat):Nat->List Rat×List Rat
 |0=>(a,bA (a.length-b.length+1) 0)
 |s+1=>(bR (-(fT a b (dst a b s).1 s)) b (a.length-b.length-s) b.length (dst a b s).1,(dst a b s).2.set (a.length-b.length-s) (fT a b (dst a b s).1 s))
theorem mB (a b:List Rat):∀s,(dst a b s).1.length=a.length/\(dst a b s).2.length=a.length-b.length+1
 |0=>by simp[dst]
 |s+1=>by
  have:=mB a b s;simp only[dst,iZ,List.length_set];exact this
theorem sN (a b:List Rat):∀s i,i+s<=a.length-b.length->(dst a b s).2.getD i 0=0
 |0,i,f=>by simp[dst,bz,List.getElem?_replicate];split<;>rfl
 |s+1,i,f=>by
  rw[dst,bz,List.getElem?_set,if_neg (by omega),<-bz];exact sN a b s i (by omega)
theorem zX (a b:List Rat)(n:Nat):(dst a b 0).2.getD n 0=0:=by
 simp[dst,bz,List.getElem?_replicate];split<;>rfl
theorem sO {a b:List Rat}(hb:b.getD (b.length-1) 0≠0)(d:b.length<=a.length):∀s,s<=a.length-b.length+1-> ∀m,a.length<=m+s->(dst a b s).1.getD m 0=0
 |0,_,m,f=>oW (by simpa[dst]using f)
 |s+1,A,m,f=>by
  have g:b.length≠0:=by
   intro c;rw[List.length_eq_zero_iff.1 c]at hb;simp at hb
  have ih:=sO hb d s (by omega);rw[dst,sM _ _ _ _ _ _ (by rw[(mB a b s).1];omega)]
  by_cases e:a.length<=m+s
  .rw[ih m e]
   split
   .omega
   .exact Rat.add_zero 0
  .rw[if_pos (by omega),show m-(a.length-b.length-s)=b.length-1 by omega];unfold fT;rw[show a.length-1-s=m by omega,Rat.div_def];have:=Rat.inv_mul_cancel _ hb
   grind
theorem sP {a b:List Rat}(e:b.length<=a.length)(hb:b≠[]):∀s,s<=a.length-b.length+1-> ∀x,aq a x=aq (dst a b s).2 x*aq b x+aq (dst a b s).1 x
 |0,_,x=>by simp only[dst,sr];grind
 |s+1,m,x=>by
  have f:=List.length_pos_iff.2 hb;have ih:=sP e hb s (by omega) x;have c:=oT (-(fT a b (dst a b s).1 s)) b (a.length-b.length-s) x b.length (dst a b s).1 (by rw[(mB a b s).1];omega) (a8 _);have d:=oP (dst a b s).2 (a.length-b.length-s) (fT a b (dst a b s).1 s) x (by rw[(mB a b s).2];omega);rw[sN a b s _ (by omega),Rat.zero_add]at d;rw[co]at c;simp only[dst];rw[c,d,ih]
  grind
def qt (a b:List Rat):List Rat:=(dst a b (a.length-b.length+1)).2
def rm (a b:List Rat):List Rat:=(dst a b (a.length-b.length+1)).1
theorem zY (h:∀m,n<=m->p.getD m 0=0):(nm p).length<=n:=by
 rcases Nat.lt_or_ge n (nm p).length with c|c
 .exfalso
  have g:∀(p:List Rat) (f:Nat),f<(nm p).length->(nm p).getD f 0=p.getD f 0:=by
   intro p
   induction p with
   |nil=>intro f b;simp[nm]at b
   |cons a p ih=>
    intro f b;unfold nm at b|-
    split at b
    .simp at b
    .rename_i i
     rw[if_neg i];cases f with
     |zero=>simp
     |succ f=>simpa using ih f (by simpa using b)
  have e:=g p ((nm p).length-1) (by omega);rw[h _ (by omega)]at e;rcases hC p with d|d
  .rw[d]at c;simp at c
  .exact d e
 .exact c
theorem zZ (ha:Tr a)(hb:Tr b)(c:b≠[])(d:b.length<=a.length):ig a b (qt a b) (rm a b):=by
 have g:=List.length_pos_iff.2 c;have e:b.getD (b.length-1) 0≠0:=hb.elim (λk=>absurd k c) id;refine⟨sP d c _ (a8 _),?_⟩;rw[eV hb];have:=zY (p:=rm a b) (n:=b.length-1) (λf i=>sO e d _ (a8 _) f (by omega));omega
theorem Cm.over {M:Nat}{v:Rat}(h:Cm d R v){T:Int}(a:t*(e:Rat)=(T:Rat))(b:T≠0)(f:T.natAbs=dw):Cm (d*dw) (R*e) (v/t):=by
 obtain⟨n,h1,h2⟩:=h
 have i:t≠0:=by
  intro c;rw[c,Rat.zero_mul]at a;exact b (by exact_mod_cast a.symm)
 have g:(dw:Rat)=(T.sign:Rat)*(T:Rat):=by
  have:(dw:Int)=T.sign*T:=by rw[<-f,Int.sign_mul_self]
  exact_mod_cast this
 refine⟨n*e*T.sign,?_,?_⟩
 .push_cast
  rw[<-h1,g,<-a,Rat.div_def];have:=Rat.inv_mul_cancel _ i
  grind
 .rw[Int.natAbs_mul,Int.natAbs_mul,Int.natAbs_natCast,Int.natAbs_sign_of_ne_zero b,Nat.mul_one];exact Nat.mul_le_mul_right _ h2
theorem Cm.wu {v w:Rat}(h:Cm d R v){T:Int}(a:t*(e:Rat)=(T:Rat))(b:T≠0)(f:T.natAbs=dw)(k:Cm e M w):Cm (d*dw) (R*M) (v/t*w):=by
 obtain⟨n,h1,h2⟩:=h;obtain⟨j,k1,k2⟩:=k
 have i:t≠0:=by
  intro c;rw[c,Rat.zero_mul]at a;exact b (by exact_mod_cast a.symm)
 have g:(dw:Rat)=(T.sign:Rat)*(T:Rat):=by
  have:(dw:Int)=T.sign*T:=by rw[<-f,Int.sign_mul_self]
  exact_mod_cast this
 refine⟨n*j*T.sign,?_,?_⟩
 .push_cast
  rw[<-h1,<-k1,g,<-a,Rat.div_def];have:=Rat.inv_mul_cancel _ i
  grind
 .rw[Int.natAbs_mul,Int.natAbs_mul,Int.natAbs_sign_of_ne_zero b,Nat.mul_one];exact Nat.mul_le_mul h2 k2
def mo (p:List Rat):List Rat:=sc (1/p.getD (p.length-1) 0) p
theorem Lp.mo {p:List Rat}{k:Nat}(h:Lp p k)(a:Tr p):Lp (mo p) k:=by
 rcases a with rfl|a
 .exact h
 obtain⟨d,h1,h2,c,g,b⟩:=h;have j:p≠[]:=by rintro rfl;simp at a
 have n:=List.length_pos_iff.2 j;obtain⟨T,t1,t2⟩:=ie b (p.length-1)
 have i:T≠0:=by
  rintro rfl;rcases Rat.mul_eq_zero.1 (t1.trans (by rfl:(((0:Int)):Rat)=0))with e|e
  .exact a e
  .exact h1 (by exact_mod_cast e)
 refine⟨T.natAbs,by omega,by omega,c,g,λq l=> ?_⟩;obtain⟨y,m,rfl⟩:=List.mem_map.1 l;have f:Cm 1 1 (1:Rat):=⟨1,by grind,by omega⟩;have:=f.wu (R:=1) (e:=d) (T:=T) t1 i rfl (b y m)
 rwa [Nat.one_mul,Nat.one_mul]at this
theorem sQ {K:Nat}{x:Rat}(b:∀k,Cm d K (x*q.getD k 0))(o:List Rat)(j:Nat)(a:∀n,Cm d N (o.getD n 0))(n:Nat):Cm d (N+K) ((bR x q i j o).getD n 0):=
 (oU b j o a n).mono (by split<;>omega)
theorem z0 {a b:List Rat}{d e N M:Nat}(ha:∀x∈a,Cm d N x)(hb:∀x∈b,Cm e M x)(o:e≠0)(p:b.getD (b.length-1) 0≠0):
 ∃T:Nat,T≠0/\T<=M/\ ∀s,(∀n,Cm (d*T^s) (N*(2*M)^s) ((dst a b s).1.getD n 0))/\(∀n,Cm (d*T^s) (N*e*(2*M)^s) ((dst a b s).2.getD n 0))/\Cm (d*T^(s+1)) (N*e*(2*M)^s) (fT a b (dst a b s).1 s)/\
  ∀k,Cm (d*T^(s+1)) (N*(2*M)^s*M) (-(fT a b (dst a b s).1 s)*b.getD k 0):=by
 obtain⟨T,g,m⟩:=ie hb (b.length-1)
 have l:T≠0:=by
  rintro rfl;rcases Rat.mul_eq_zero.1 (g.trans (by rfl:(((0:Int)):Rat)=0))with c|c
  .exact p c
  .exact o (by exact_mod_cast c)
 refine⟨T.natAbs,by omega,m,?_⟩;have y:1<=M:=by omega
 have rest:∀s,(∀n,Cm (d*T.natAbs^s) (N*(2*M)^s) ((dst a b s).1.getD n 0))->Cm (d*T.natAbs^(s+1)) (N*e*(2*M)^s) (fT a b (dst a b s).1 s)/\ ∀k,Cm (d*T.natAbs^(s+1)) (N*(2*M)^s*M) (-(fT a b (dst a b s).1 s)*b.getD k 0):=by
  intro s j;refine⟨?_,λk=> ?_⟩
  .have:=(j (a.length-1-s)).over (M:=M) (e:=e) g l rfl;rw[Nat.mul_assoc,<-Nat.pow_succ]at this;exact this.mono (by rw[Nat.mul_right_comm];exact a8 _)
  .have:=((j (a.length-1-s)).wu (e:=e) g l rfl (ie hb k)).neg;rw[Nat.mul_assoc,<-Nat.pow_succ,<-Rat.neg_mul]at this;exact this
 intro s
 induction s with
 |zero=>
  have f:∀n,Cm (d*T.natAbs^0) (N*(2*M)^0) ((dst a b 0).1.getD n 0):=λn=>by
   rw[Nat.pow_zero,Nat.pow_zero,Nat.mul_one,Nat.mul_one];exact ie ha n
  refine⟨f,λn=> ?_,rest 0 f⟩;rw[zX a b n];exact Cm.zero _ _
 |succ s ih=>
  obtain⟨q,r,t,u⟩:=ih
  have f:∀n,Cm (d*T.natAbs^(s+1)) (N*(2*M)^(s+1)) ((dst a b (s+1)).1.getD n 0):=λn=>by
   rw[dst]
   have:=sQ (i:=a.length-b.length-s) u (dst a b s).1 b.length (λn=>by
    have:=(q n).up T.natAbs
    rwa [Nat.mul_assoc,<-Nat.pow_succ]at this) n
   refine this.mono ?_;have c:N*(2*M)^s*T.natAbs<=N*(2*M)^s*M:=Nat.mul_le_mul_left _ m;have v:N*(2*M)^(s+1)=N*(2*M)^s*M+N*(2*M)^s*M:=by rw[Nat.pow_succ,<-Nat.mul_assoc,Nat.mul_comm 2 M,<-Nat.mul_assoc];omega
   omega
  refine⟨f,λn=> ?_,rest (s+1) f⟩;rw[dst,bz,List.getElem?_set];have c:N*e*(2*M)^s<=N*e*(2*M)^(s+1):=Nat.mul_le_mul_left _ (Nat.pow_le_pow_right (by omega) (by omega))
  split
  .split
   .exact t.mono c
   .exact Cm.zero _ _
  .rw[<-bz];have:=(r n).up T.natAbs;rw[Nat.mul_assoc,<-Nat.pow_succ]at this;refine this.mono ?_;rw[Nat.pow_succ,<-Nat.mul_assoc];exact Nat.mul_le_mul_left _ (by omega)
theorem sR {b:Nat}(h:x<b^k)(s:Nat)(hb:2<=b):(2*x)^s<=b^(s*(k+1)):=by
 rw[Nat.mul_comm s,Nat.pow_mul];refine Nat.pow_le_pow_left ?_ s;rw[Nat.pow_succ,Nat.mul_comm 2 x];exact Nat.mul_le_mul (Nat.le_of_lt h) hb
theorem ij {b:Nat}(h1:x<b^j)(h2:y<=b^k)(hb:2<=b):x*y<b^(j+k):=by
 rw[Nat.pow_add];exact Nat.lt_of_le_of_lt (Nat.mul_le_mul_left _ h2) (Nat.mul_lt_mul_of_pos_right h1 (Nat.pow_pos (by omega)))
theorem oY (a:d≠0)(h1:d<E.B^k)(h2:N<E.B^k)(h:∀n,Cm d N (p.getD n 0)):Lp p k:=
 ⟨d,a,h1,N,h2,λe c=>by
   obtain⟨n,b,rfl⟩:=List.getElem_of_mem c;have:=h n
   rwa [bz,aT b]at this⟩
theorem sT (h:Lp a j)(z:Lp b k)(hb:Tr b)(F:b≠[])(s:Nat):
 Lp (dst a b s).1 (j+s*(k+1))/\Lp (dst a b s).2 (j+k+s*(k+1))/\E.Lq (fT a b (dst a b s).1 s) (j+k+(s+1)*(k+1))/\
  (∀r,Lp (bR (-(fT a b (dst a b s).1 s)) b (a.length-b.length-s) r (dst a b s).1) (j+(s+1)*(k+1))):=by
 have G:b.getD (b.length-1) 0≠0:=hb.elim (λk=>absurd k F) id;have P:=h.one_le;obtain⟨y,n,e,N,o,A⟩:=h;obtain⟨L,k1,k2,c,u,K⟩:=z;obtain⟨f,B,D,x⟩:=z0 A K k1 G;have d:=B2;have C:f<=2*c:=by omega
 have l:∀s,f^s<=E.B^(s*(k+1)):=λs=>aQ (Nat.pow_le_pow_left C s) (sR u s d)
 have g:∀s,(2*c)^s<=E.B^(s*(k+1)):=λs=>sR u s d
 have m:∀s,y*f^s≠0:=λs=>Nat.mul_ne_zero n (Nat.ne_of_gt (Nat.pow_pos (Nat.pos_of_ne_zero B)))
 have q:=gQ o k2;have up:∀{v a b:Nat},v<E.B^a->a<=b->v<E.B^b:=λn e=>Nat.lt_of_lt_of_le n (Nat.pow_le_pow_right E.b0 e)
 obtain⟨t,H,I,J⟩:=x s;refine⟨oY (m s) (ij e (l s) d) (ij o (g s) d) t,oY (m s) (up (ij e (l s) d) (by omega)) (ij q (g s) d) H,?_,λr=> ?_⟩
 .refine I.lq (m _) (up (ij e (l (s+1)) d) (by omega)) (up (ij q (g s) d) ?_) (by omega);rw[Nat.succ_mul];omega
 .refine oY (N:=N*(2*c)^(s+1)) (m (s+1)) (ij e (l (s+1)) d) (ij o (g (s+1)) d) λp=> ?_
  have:=sQ (i:=a.length-b.length-s) J (dst a b s).1 r (λp=>by
   have:=(t p).up f
   rwa [Nat.mul_assoc,<-Nat.pow_succ]at this) p
  refine this.mono ?_;have M:N*(2*c)^s*f<=N*(2*c)^s*c:=Nat.mul_le_mul_left _ D;have O:N*(2*c)^(s+1)=N*(2*c)^s*c+N*(2*c)^s*c:=by rw[Nat.pow_succ,<-Nat.mul_assoc,Nat.mul_comm 2 c,<-Nat.mul_assoc];omega
  omega
theorem Lp.qt {a b:List Rat}{j k:Nat}(h:Lp a j)(c:Lp b k)(hb:Tr b)(d:b≠[]):Lp (qt a b) (j+k+(a.length-b.length+1)*(k+1)):=(sT h c hb d _).2.1
theorem Lp.rm {a b:List Rat}{j k:Nat}(h:Lp a j)(c:Lp b k)(hb:Tr b)(d:b≠[]):Lp (rm a b) (j+(a.length-b.length+1)*(k+1)):=(sT h c hb d _).1
def oZ (p q:List Rat):List Rat:=if nm q=[]then[]else if(nm p).length<(nm q).length then[]else nm (qt (nm p) (nm q))
def o0 (p q:List Rat):List Rat:=if nm q=[]then[]else if(nm p).length<(nm q).length then nm p else nm (rm (nm p) (nm q))
theorem z1 (h:nm q≠[]):ig p q (oZ p q) (o0 p q):=by
 unfold oZ o0;rw[if_neg h,if_neg h]
 split
 .rename_i a
  refine⟨λb=>by rw[gR,d9];grind,?_⟩;rw[jr];exact a
 .rename_i a
  obtain⟨c,d⟩:=zZ (hC p) (hC q) h (by omega);refine⟨λb=> ?_,?_⟩
  .have:=c b;rw[d9]at this;rw[d9,d9,this,d9]
  .rw[jr]
   rwa [jr]at d
end Pq
namespace Sg
def enc (C:Nat):List Nat->Nat
 |[]=>0
 |x::f=>x+C*enc C f
def z2 (l:List Int):List Rat:=l.map (λa:Int=>(a:Rat))
def sh (X:List Int):Nat->Nat->List (List Int)
 |_,0=>[]
 |k,f+1=>(bA k 0++X)::sh X (k+1) f
def cb:List Int->List (List Int)->List Rat
 |z::A,f::m=>Pq.add (Pq.sc (z:Rat) (z2 f)) (cb A m)
 |_,_=>[]
end Sg
namespace Pq
def ln (p:List Rat):Nat:=(nm p).length
theorem z3 (h:∀x,aq p x=aq q x):ln p=ln q:=by unfold ln;rw[ge h]
theorem sU (h:Tr p):ln p=p.length:=by unfold ln;rw[eV h]
theorem sV (h:nm p=[]):ln p=0:=by unfold ln;rw[h];rfl
theorem mC (h:nm p≠[]):0<ln p:=List.length_pos_iff.2 h
theorem mD (a:nm p≠[])(b:nm q≠[]):ln (mul p q)+1=ln p+ln q:=by
 have c:nm (mul p q)=mul (nm p) (nm q):=by
  rw[<-my (hC p) (hC q) a b];exact ge λd=>by rw[cP,cP,d9,d9]
 unfold ln;rw[c];exact js _ _ a b
theorem o1 (h:∀x,aq p x*aq q x=0)(b:nm q≠[]):nm p=[]:=by
 apply Classical.byContradiction;intro a;have c:=mD a b;have d:nm (mul p q)=[]:=i0 λx=>by rw[cP];exact h x
 rw[sV d]at c;have:=mC a;have:=mC b;omega
theorem z4 (h:∀x,aq p x*aq q x=0)(a:nm q≠[])(x:Rat):aq p x=0:=i3 (o1 h a) x
def Sz (s:List Rat)(L M:Nat):Prop:=nm s=[]\/ln s+L<=M+1
end Pq
namespace Pq
structure Can (p q aM ai:List Rat):Prop where
 tr:Tr aM
 mo:Mo ai
 ne:ai≠[]
 eq:∀x,aq aM x*aq q x=aq p x*aq ai x
 mG:∃s t,∀x,aq s x*aq aM x+aq t x*aq ai x=1
theorem o2 {r:List Rat}(h:∀x,aq p x*aq r x=aq q x*aq r x)(a:nm r≠[])(x:Rat):aq p x=aq q x:=by
 have:=z4 (p:=add p (sc (-1) q)) (q:=r) (λx=>by
  have:=h x;rw[ff,hd]
  grind) a x
 rw[ff,hd]at this
 grind
theorem Can.wx {ai:List Rat}(b:nm q≠[])(h:Can p q aM ai)(a:Can p q hD fC)(x:Rat):aq aM x*aq fC x=aq hD x*aq ai x:=by
 have:=o2 (p:=mul aM fC) (q:=mul hD ai) (r:=q) (λx=>by
  have c:=h.eq x;have d:=a.eq x;rw[cP,cP]
  grind) b x
 rwa [cP,cP]at this
theorem Can.wz {ai:List Rat}(d:nm q≠[])(h:Can p q aM ai)(c:Can p q hD fC):Dv ai fC:=by
 obtain⟨s,t,e⟩:=h.mG;refine⟨add (mul s hD) (mul t fC),λx=> ?_⟩;have a:=e x;have b:=h.wx d c x;rw[ff,cP,cP]
 calc aq fC x=(aq s x*aq aM x+aq t x*aq ai x)*aq fC x:=by rw[a,Rat.one_mul]
  _=aq s x*(aq aM x*aq fC x)+aq t x*aq ai x*aq fC x:=by grind
  _=_:=by rw[b];grind
theorem Can.unique {p q aM ai hD fC:List Rat}(b:nm q≠[])(h:Can p q aM ai)(a:Can p q hD fC):aM=hD/\ai=fC:=by
 have e:=Mo.unique h.mo a.mo (h.wz b a) (a.wz b h);refine⟨mA h.tr a.tr (o2 (r:=ai) (λx=> ?_) (by rw[eV h.mo.tr];exact h.ne)),e⟩;have:=h.wx b a x
 rwa [<-e]at this
end Pq
namespace Go.Proofs.YtjopfpegcckllaaGreatDoor
open Go.RowKit
def lens (a:List (List Nat)):List Nat:=a.map List.length
theorem Qw.of {d:W}{q:Rat}(h:Ws w u (E.words q.num.natAbs))(k:Ws w d (E.words q.den)):Qw w (af #[J (E.aB q.num),u,d]) q:=⟨u,d,rfl,h,k⟩
theorem bH.r (h:bH w g l):cg w g l []:=by
 unfold cg;rw[List.append_nil];exact h
def fg (w:O)(v:W)(g n:Nat):Prop:=
 ∃(b a:Nat) (pre rest:List W),v=D (U ⟨g,b,none⟩) (E.words n).length a/\pre.length=b/\cv w g pre (E.words n) rest/\(E.words n).length<=a/\a<=cm
theorem fg.up {w ab:O}{v:W}{g n:Nat}(h:fg w v g n)(k:V w ab):fg ab v g n:=by
 obtain⟨e,c,pre,rest,h1,h2,a,b,d⟩:=h;exact⟨e,c,pre,rest,h1,h2,a.up k,b,d⟩
instance fg.bW {w ab:O} {v:W} {g n:Nat}:Lu (V w ab) (fg w v g n) (fg ab v g n):=bu λu h=>h.up u
theorem fg.other {w ab:O}{v:W}{g n h:Nat}(m:fg w v g n)(k:cd h w ab)(e:g≠h):fg ab v g n:=by
 obtain⟨f,c,pre,rest,h1,h2,a,b,d⟩:=m;exact⟨f,c,pre,rest,h1,h2,a.other k e,b,d⟩
theorem fg.ws {w:O}{v:W}{g n:Nat}(m:fg w v g n):Ws w v (E.words n):=by
 obtain⟨e,c,pre,rest,rfl,h2,a,b,d⟩:=m;exact a.ws h2 (E.gB n) b d
theorem fg.stays {h:Nat}(m:fg w v g n)(a:g≠h):e7 h w v (E.words n):=λab k=>(m.other k a).ws
theorem fg.hn (h:w.ownsRow base 186 1 v (E.words n).length ((E.words n).map wv))(e:n≠0):∃g,fg w v g n/\base<=g/\g<w.heap.size:=by
 have d:0<(E.words n).length:=Nat.pos_of_ne_zero (λh=>e (E.hq.1 h));obtain⟨g,c,rest,rfl,h1,h2,b,a⟩:=rN h d;exact⟨g,⟨0,c,[],rest,rfl,rfl,a.mid,h2,b⟩,h1,a.lt⟩
theorem mkRat_one (z:Int):(mkRat z 1).num=z/\(mkRat z 1).den=1:=by
 rw[Rat.num_mkRat,Rat.den_mkRat];simp
theorem Ws.ad (h:Ws w.drew v l)(o:Obj):Ws (w.alloc o).drew v l:=h.up (V.alloc (w:=w.drew) (V.refl w.drew) o)
end Go.Proofs.YtjopfpegcckllaaGreatDoor
namespace E
theorem Lq.floor {q:Rat}{k:Nat}(h:Lq q k):Lz q.floor k:=by
 unfold Lz;refine aQ (eS ?_) h.1;rw[Rat.floor_def];have e:(0:Int)<(q.den:Int):=by have:=q.den_pos;omega
 generalize q.num=z;generalize(q.den:Int)=d at*;rcases Int.lt_or_le z 0 with f|f
 .have h1:z<=z/d:=Int.le_ediv_of_mul_le e (by have:=Int.mul_le_mul_of_nonpos_left (a:=z) (b:=d) (c:=1) (by omega) (by omega);omega);have h2:z/d<0:=Int.ediv_lt_of_lt_mul e (by omega);omega
 .have h1:=Int.ediv_nonneg f (Int.le_of_lt e);have h2:=Int.ediv_le_self d f;omega
end E
namespace Ga
def bad (L:Int):List Nat->Nat
 |[]=>0
 |n::f=>if(n:Int)<=L then bad L f+1 else 0
def mx (b n:Int):Int:=if n>b then n else b
def pk (p:Int):List Nat->Int
 |[]=>p
 |n::f=>pk (mx p n) f
theorem z5 (p:Int):∀(l m:List Nat),pk p (l++m)=pk (pk p l) m:=by
 intro l
 induction l generalizing p with
 |nil=>intro m;rfl
 |cons f l ih=>intro m;exact ih _ m
theorem z6 {p:Int}(h:j<l.length):pk p (l.take (j+1))=mx (pk p (l.take j)) (l[j]:Int):=by
 rw[List.take_succ_eq_append_getElem h,z5];rfl
theorem sW (L:Int):∀l:List Nat,bad L l<=l.length
 |[]=>a8 _
 |n::l=>by
  have:=sW L l;unfold bad
  split<;>simp<;>omega
theorem sX {L:Int}:∀{l:List Nat} {j:Nat},(∀n∈l.take j,(n:Int)<=L)->(h:j<l.length)->L<(l[j]:Int)->bad L l=j
 |n::l,0,_,_,h=>by
  simp only[List.getElem_cons_zero]at h;unfold bad;rw[if_neg (by omega)]
 |n::l,j+1,f,h,hb=>by
  have a:(n:Int)<=L:=f n (by simp);have ih:=sX (l:=l) (j:=j) (λc b=>f c (by simp[b])) (by simpa using h) (by simpa using hb);unfold bad;rw[if_pos a,ih]
theorem sY {L:Int}:∀{l:List Nat},(∀n∈l,(n:Int)<=L)->bad L l=l.length
 |[],_=>rfl
 |n::l,f=>by
  have ih:=sY (l:=l) (λb a=>f b (by simp[a]));unfold bad;rw[if_pos (f n (by simp)),ih,List.length_cons]
theorem mH (h:j<l.length)(ha:∀n∈l.take j,(n:Int)<=L)(hb:(l[j]:Int)<=L):∀n∈l.take (j+1),(n:Int)<=L:=by
 intro n a;rw[List.take_succ_eq_append_getElem h]at a;rcases List.mem_append.1 a with a|a
 .exact ha n a
 .simp at a;subst a;exact hb
def a5 (n:Int):Int:=if 4096<(if 0>n then 0 else n)then 4096 else(if 0>n then 0 else n)
theorem mI (n:Int):0<=a5 n/\a5 n<=4096:=by unfold a5;split<;>split<;>omega
end Ga
namespace Go.Proofs.YtjopfpegcckllaaGreatDoor
open Go.RowKit
def Gb (g:Nat)(w a:O):Prop:=w.grownBy a (U g)/\Kw w a
theorem Gb.up (h:V w ab):Gb g w ab:=⟨gN h _,h.kw⟩
theorem Gb.refl (g:Nat)(w:O):Gb g w w:=Gb.up (V.refl w)
theorem Gb.trans {g:Nat}{a b c:O}(h:Gb g a b)(k:Gb g b c):Gb g a c:=
 ⟨⟨k.1.os.trans h.1.os,k.1.tape.trans h.1.tape,k.1.output.trans h.1.output,aQ h.1.size k.1.size,λj d e=>(k.1.block j (Nat.lt_of_lt_of_le d h.1.size) e).trans (h.1.block j d e)⟩,h.2.trans k.2⟩
theorem Gb.du (h:Gb g w ab)(c:V w0 w)(a:w0.heap.size<=g):V w0 ab:=c.grown h.1 (λk b=>by cases b;exact a)
theorem Gb.bx {bI:Nat}(h:Gb g w ab)(hb:Bx T w bI vs)(a:bI≠g):Bx T ab bI vs:=(h.1.block bI hb.lt (λe=>a (by cases e;rfl))).trans hb
theorem Gb.sq {P:O->W->α->Prop}(s:Kp P){qs:List α}(h:Gb g w ab)(n:Sq P w v qs)(p:v.ownBlock≠U g):Sq P ab v qs:=by
 obtain⟨a,c,t,rfl,h2,d,f,i⟩:=n;refine⟨a,c,t,rfl,h2,d,f.imp λx q r=>s.kw r h.2,λm=> ?_⟩;obtain⟨b,o,rfl,hb,k⟩:=i m;refine⟨b,o,rfl,Nat.lt_of_lt_of_le hb h.1.size,λj u l=> ?_⟩;exact h.1.cell (k j u l) (λe=>p (by simpa[Value.ownBlock]using e))
theorem Gb.jD {P:O->W->α->Prop}(d:Kp P){ls:List (List α)}(h:Gb g w ab)(c:V w0 w)(a:w0.heap.size<=g)(b:cU P w0 v ls):cU P ab v ls:=b.up d (h.du c a)
def Sz (k:Nat)(w:O)(v:W)(n:Nat):Prop:= ∃e d c a b,v=af #[J e,d,c]/\Ws w d a/\Ws w c b/\E.bD (E.val a)+E.bD (E.val b)=n/\a.length<=k/\b.length<=k
theorem hE (k:Nat):Kp (Sz k) where
 kw:=λ⟨l,e,a,i,j,b,c,d,f⟩ g=>⟨l,e,a,i,j,b,c.kw g,d.kw g,f⟩
 form:=λ⟨l,e,a,i,j,b,c,d,f⟩=>⟨⟨_,e,a⟩,b,c.shape,d.shape⟩
theorem Sz.bj (h:Sz k w v n):n<=64*k:=by
 obtain⟨s,u,d,l,g,_,h2,a,rfl,b,c⟩:=h;have e:=E.lN (aQ (E.cr h2.ok) b);have f:=E.lN (aQ (E.cr a.ok) c);omega
theorem Sq.hg {rs:List ay}(h:Sq Rw w v rs)(a:∀r∈rs,r.bd k):Sq (Sz k) w v (rs.map ay.size):=h.map _ λv r b e=>by
 obtain⟨u,d,rfl,h2,c⟩:=e;exact⟨_,u,d,_,_,rfl,h2,c,rfl,(a r b).1,(a r b).2⟩
theorem Sz.size (h:Sz k w v n)(e:k<=1000000):aj ae 146 #[v] w (iV (n:Int) w):=by
 obtain⟨s,u,d,l,f,rfl,h2,a,rfl,b,c⟩:=h;exact oH h2 a (by omega) (by omega)
def sZ (L:Int)(w:O)(e:aO)(b:O):Prop:= ∃a,e=aw (az (U ⟨a,0,none⟩))/\Bx 154 b a [H I 0,H I 0,H I L]/\w.heap.size<=a/\V w b
theorem kq {n:Int}(g: -9223372036854775808<=n/\n<=9223372036854775807)(w:O):aj ae 40 #[H I n] w (sZ (Ga.a5 n) w):=by
 obtain⟨a,b⟩:∃a,(if 0>n then 0 else n)=a:=⟨_,rfl⟩;have f:=G b.symm;have c:Y (Ga.a5 n=if 4096<a then 4096 else a):=G (by unfold Ga.a5;rw[b]);clear b;obtain⟨d,e⟩:∃d,Ga.a5 n=d:=⟨_,rfl⟩;rw[e]at c|-;clear e;go_enter func40,ntmps40
 go_wp2_with(first
  |(with_reducible show bG _ _ _ _ _ _;refine h9 (o:=⟨U 4,_,_,_,_,_⟩) rfl _ _ _ _ rfl rfl rfl f.out ?_)
  |(with_reducible show bG _ _ _ _ _ _;refine ov (o:=⟨U 5,_,_,_,_,_⟩) rfl _ _ _ _ rfl rfl rfl c.out ?_))
 go_ret;exact⟨w.heap.size,rfl,Bx.new _ w _,a8 _,(V.refl w).alloc _⟩
def z7 (g:Nat)(a b c:Int)(w:O)(e:aO)(d:O):Prop:=e=aw (aY #[])/\Bx 154 d g [H I a,H I b,H I c]/\Gb g w d
theorem s6 {g i:Nat}{w:O}{a b c x:Int}(hb:Bx 154 w g [H I a,H I b,H I c])(e:i<3):Gb g w (w.setCell ⟨g,i,none⟩ (H I x)):=by
 refine⟨⟨rfl,rfl,rfl,by simp[ag],λk j f=>Below.heap_setCell _ _ _ _ (by simp;exact λd=>f (by rw[d]))⟩,?_⟩
 match i,e with
 |0,_=>exact Kw.store (c:=H I a) hb rfl trivial _
 |1,_=>exact Kw.store (c:=H I b) hb rfl trivial _
 |2,_=>exact Kw.store (c:=H I c) hb rfl trivial _
theorem z8 {a b c n:Int}(hb:Bx 154 w g [H I a,H I b,H I c])(ha:0<=a/\a<=1000000000)(r:0<=n/\n<=1000000000000):
 aj ae 180 #[az (U ⟨g,0,none⟩),H I n] w (z7 g (a+1) (Ga.mx b n) c w):=by
 obtain⟨f,e⟩:∃f,Ga.mx b n=f:=⟨_,rfl⟩;have k:Y (f=if n>b then n else b):=G e.symm;rw[e];clear e;obtain⟨l,c1,c2⟩:=hb.c3;have p:=hb.free 0;have q:=hb.free 1;have d:Bx 154 (w.setCell ⟨g,0,none⟩ (H I (a+1))) g [H I (a+1),H I b,H I c]:=hb.set 0 _;have d1:=(d.c3).2.1;have m:=d.free 1;have j:=G hb;have i:=G d;clear hb d;go_enter func180,ntmps180;go_wp2_with(with_reducible show bG _ _ _ _ _ _;refine h9 (o:=⟨U 17,_,_,_,_,_⟩) rfl _ _ _ _ rfl rfl rfl k.out ?_)
 go_end0
 exact⟨rfl,i.out.set 1 _,(s6 j.out (by omega)).trans (s6 i.out (by omega))⟩
def s7 (g:Nat)(t:Bool)(a b c:Int)(w:O)(e:aO)(d:O):Prop:=e=aw (J t)/\Bx 154 d g [H I a,H I b,H I c]/\Gb g w d
theorem o3 {a b c:Int}(hb:Bx 154 w g [H I a,H I b,H I c])(e:Sz k w v n)(y:k<=1000000)(ha:0<=a/\a<=1000000000):
 aj ae 154 #[az (U ⟨g,0,none⟩),v] w (s7 g (decide ((n:Int)<=c)) (a+1) (Ga.mx b n) c w):=by
 have M:=e.bj;have f:=e;obtain⟨z,rfl,⟨i,p,c1,j⟩,⟨ai,q,c2,l⟩⟩:=(hE k).form e;obtain⟨r,N,L⟩:=z;simp only at j l;subst j l;have f:Sz k w (af #[J r,D i p c1,D ai q c2]) n:=e;clear e;show aj ae 154 #[az (U ⟨g,0,none⟩),af #[J r,D i p c1,D ai q c2]] w _;go_enter func154,ntmps154;go_wp2_with fail;generalize m:ah w _=B at*;obtain⟨d,u⟩:=aC m;clear m;have F:=u.c3;have hb:=hb.up d;have f:=(hE k).kw f d.kw
 ((with_reducible refine(Sz.size f y).mono ?_))
 rintro x C ⟨rfl,u1⟩;have hb:=hb.up u1;have d:=d.trans u1;obtain⟨s,A⟩:∃s,Y (decide ((n:Int)<=c)=s):=⟨_,G rfl⟩;go_wp2_with fail
 ((with_reducible refine(z8 hb ha (by omega)).mono ?_))
 rintro x E ⟨rfl,o,t⟩;obtain⟨K,c1,c2⟩:=o.c3;go_wp2;go_ret;exact⟨rfl,o,(Gb.up d).trans t⟩
def z9 (g:Nat)(L:Int)(a b:Int)(c:List Nat)(w:O)(e:aO)(d:O):Prop:=
 e=aw (aY #[H I (Ga.bad L c:Nat),J (decide (Ga.bad L c=c.length))])/\Bx 154 d g [H I (a+(min (Ga.bad L c+1) c.length:Nat)),H I (Ga.pk b (c.take (Ga.bad L c+1))),H I L]/\Gb g w d
theorem o4 {a b:Int}{ns:List Nat}(hb:Bx 154 w g [H I a,H I b,H I L])(h:Sq (Sz k) w v ns)(J:v.ownBlock≠U g)(ag:k<=1000000)(ay:ns.length<=1000)(ha:0<=a/\a<=100000000):
 aj ae 119 #[az (U ⟨g,0,none⟩),v] w (z9 g L a b ns w):=by
 obtain⟨al,ao,rfl⟩:=h.form;have M:=G h;have T:=G J;have P:=G hb;clear h J hb;go_enter func119,ntmps119;go_wp2
 go_loopw[10] (λs wr=> ∃c:Nat,s=H I c/\c<=ns.length/\Y (∀l∈ns.take c,(l:Int)<=L)/\Bx 154 wr g [H I (a+(c:Int)),H I (Ga.pk b (ns.take c)),H I L]/\Gb g w wr) (λs _=>ns.length-(aI s).toNat)
 case atStart=>exact⟨0,rfl,bn _,G (by simp),by simpa[Ga.pk]using P.out,Gb.refl g w⟩
 case round=>
  obtain⟨c,rfl,ax,m,gb,n⟩:=hrel
  by_cases j:c<ns.length
  .obtain⟨an,o,aG,B,aE,ar,ai,aF,au,rfl,aw,aa,ab,g3,E⟩:=(n.sq (hE k) M.out T.out).at_ (hE k) j
   have R:=G (Ga.z6 (p:=b) j);have Q:=G λq=>Ga.sX (L:=L) m.out j q
   have S:=G λq=>Ga.mH (L:=L) j m.out q
   generalize ns[c]=l at*;obtain⟨x,u⟩:∃x,Y (Ga.pk b (ns.take c)=x):=⟨_,G rfl⟩;rw[u.out]at gb;have f:=V.refl wr;have i:=gb.c3;have k1:(c:Int)<(ns.length:Int):=by omega
   have aB:(0:Int)<=(c:Int):=by omega
   have aD:((c:Int)).toNat=c:=by omega
   have af:=ez i;go_wp2_with fail;clear af;generalize A:ah wr _=am at*;obtain⟨ak,y⟩:=aC A;clear A;have av:=gb.lt;revert gb f i;revert ak;refine bX ?_;intro gb f i
   have Z:=y.c3;clear aa ab g3;have F:=(hE k).kw E f.kw
   ((with_reducible refine(o3 gb F ag ⟨by omega,by omega⟩).mono ?_))
   rintro aq X ⟨rfl,z,K⟩;have C:=n.trans ((Gb.up f).trans K)
   have t:Bx 154 X g [H I (a+((c+1:Nat):Int)),H I (Ga.pk b (ns.take (c+1))),H I L]:=by
    rw[R.out,u.out,Int.natCast_add,<-Int.add_assoc];exact z
   have e:=G t;clear E F gb z t i Z y
   by_cases r:(l:Int)<=L
   .have N:=G (S.out r);go_wp2
    go_roundw
    case rel=>exact⟨c+1,by go_num,by omega,N,e.out,C⟩
    case measure=>simp[aI];omega
   .have d:=G (Q.out (by omega));have aA:decide ((l:Int)<=L)=false:=decide_eq_false r;clear r;go_wp2
    go_ret2
    refine⟨by rw[d.out,decide_eq_false (by omega)];rfl,?_,C⟩;rw[d.out,Nat.min_eq_left (by omega)];exact e.out
  .obtain rfl:c=ns.length:=by omega
   have d:Y (Ga.bad L ns=ns.length):=G (Ga.sY (by have:=m.out;rw[co]at this;exact this));have e:=G gb;clear gb;go_wp2
   go_ret2
   refine⟨by rw[d.out,decide_eq_true rfl];rfl,?_,n⟩;rw[d.out,Nat.min_eq_right (by omega),List.take_of_length_le (by omega)];have:=e.out;rw[co]at this;exact this
end Go.Proofs.YtjopfpegcckllaaGreatDoor
namespace Pc
open E
theorem s8 (q:Rat):cI q 0=bU q.num:=by
 unfold cI;rw[show q-0=q by grind]
theorem lt_iff (a b:Rat):cI a b<0↔a<b:=by
 have d:=lO a b;constructor
 .intro c;exact Rat.not_le.1 λe=>by have:=d.2 e;omega
 .intro c;apply Classical.byContradiction;intro e;exact Rat.not_le.2 c (d.1 (by omega))
theorem le_iff (a b:Rat):cI a b<=0↔a<=b:=by
 have d:=iP a b;constructor
 .intro c;exact Rat.not_lt.1 λe=>by have:=d.2 e;omega
 .intro c;apply Classical.byContradiction;intro e;exact Rat.not_lt.2 c (d.1 (by omega))
theorem jt (q:Rat):decide (bU q.num>0)=decide (0<q):=by rw[<-s8];exact decide_eq_decide.2 (iP q 0)
theorem s9 (q:Rat):decide (bU q.num<0)=decide (q<0):=by rw[<-s8];exact decide_eq_decide.2 (lt_iff q 0)
theorem o5 (a b:Rat):decide (cI a b>0)=decide (b<a):=decide_eq_decide.2 (iP a b)
theorem Aa (a b:Rat):decide (cI a b>=0)=decide (b<=a):=decide_eq_decide.2 (lO a b)
theorem Ab (a b:Rat):decide (cI a b<0)=decide (a<b):=decide_eq_decide.2 (lt_iff a b)
theorem Ac (a b:Rat):decide (cI a b<=0)=decide (a<=b):=decide_eq_decide.2 (le_iff a b)
def de (bV:Bool)(q1 a b c d:Rat)(fi mo:Int):Int:=
 if bV=false then 1 else if q1<0 then 2 else if¬(0<a)\/1<a then 3 else if¬(0<b)\/1<=b then 4 else if c<1 then 5 else if¬(0<d)then 6 else if fi<1\/1024<fi then 7 else if mo<1\/200<mo then 8 else 0
theorem Ad {bV:Bool}{q1 q2 q3 q4 q5:Rat}{fi mo:Int}(h:de bV q1 q2 q3 q4 q5 fi mo=0):bV=true/\0<=q1/\(0<q2/\q2<=1)/\(0<q3/\q3<1)/\1<=q4/\0<q5/\1<=fi/\fi<=1024/\1<=mo/\mo<=200:=by
 unfold de at h
 split at h
 .omega
 rename_i g
 split at h
 .omega
 rename_i d
 split at h
 .omega
 rename_i b
 split at h
 .omega
 rename_i c
 split at h
 .omega
 rename_i e
 split at h
 .omega
 rename_i f
 split at h
 .omega
 rename_i i
 split at h
 .omega
 rename_i j
 refine⟨by cases bV<;>simp_all,Rat.not_lt.1 d,⟨?_,?_⟩,⟨?_,?_⟩,Rat.not_lt.1 e,Classical.not_not.1 f,by omega,by omega,by omega,by omega⟩
 .exact Classical.byContradiction λa=>b (.inl a)
 .exact Rat.not_lt.1 λa=>b (.inr a)
 .exact Classical.byContradiction λa=>c (.inl a)
 .exact Rat.not_le.1 λa=>c (.inr a)
def down (x:Rat)(fi:Int):Rat:=mkRat (x*(fi:Rat)).floor fi.natAbs
def et (b a low high:Rat)(fi:Int)(e:Rat):Rat:=
 if e=0 then high else if down (a*b/e) fi<low then low else if high<down (a*b/e) fi then high else down (a*b/e) fi
def cut (t a b:Rat):Rat:=if a-t<b then a-t else b
def u1:Rat:=((1:Int):Rat)/((1000:Int):Rat)
def u2:Rat:=((9:Int):Rat)/((10:Int):Rat)
def u3:Rat:=((1:Int):Rat)/((5:Int):Rat)
def u4:Rat:=((5:Int):Rat)
def u5:Rat:=((1:Int):Rat)/((1000000:Int):Rat)
end Pc
namespace Go.Proofs.YtjopfpegcckllaaGreatDoor
abbrev bv:Type:=Int×Int×Int×Int
structure ba where
 op:Int
 a:Int
 b:Int
 n:ay
namespace Z
open E
def aG:bv:=(0,0,0,0)
def bits (q:Rat):Nat:=bD q.num.natAbs+bD q.den
def fits (L:Int)(l:List Rat)(a:Int):bv:=if Ga.bad L (l.map bits)=l.length then aG else(6,0,a,300+(Ga.bad L (l.map bits):Nat))
def val (i:ba)(t:Rat)(y p done:List Rat):Option Rat:=
 let a:=done.getD i.a.toNat 0
 let b:=done.getD i.b.toNat 0
 if i.op=1 then U i.n.val else if i.op=3 then U (y.getD i.a.toNat 0)else if i.op=4 then U (p.getD i.a.toNat 0)
 else if i.op=6 then U (-a)else if i.op=11 then(if fO a i.b=true then U (gI a i.b)else none)
 else if i.op=7 then U (a+b)else if i.op=8 then U (a-b)else if i.op=9 then U (a*b)
 else if i.op=10 then(if b=0 then none else U (a/b))else U t
def run (L:Int)(t:Rat)(y p:List Rat):List ba->List Rat->bv×List Rat
 |[],done=>(aG,done)
 |m::A,done=>match val m t y p done with
  |none=>((3,0,0,done.length),[])
  |some f=>if(bits f:Int)<=L then run L t y p A (done++[f])else((6,0,0,done.length),[])
def outs (os:List Int)(r:List Rat):List Rat:=os.map λo=>r.getD o.toNat 0
def field (L:Int)(code:List ba)(os:List Int)(t:Rat)(y p:List Rat):bv×List Rat:=
 let r:=run L t y p code []
 if r.1=aG then(aG,outs os r.2)else(r.1,[])
def mix (c:List Rat)(d:List (List Rat))(n:Nat):List Rat:=(List.range n).map λb=>(List.zipWith (λa k=>a*k.getD b 0) c d).sum
def fh (h:Rat)(c:List Rat)(a:List (List Rat))(n:Nat):List Rat:=(mix c a n).map (h* .)
def from_ (y:List Rat)(h:Rat)(c:List Rat)(a:List (List Rat)):List Rat:=List.zipWith (. + .) y (fh h c a y.length)
structure Pr where
 code:List ba
 os:List Int
 ar:Nat
 c:List Rat
 a:List (List Rat)
 b:List Rat
 e:List Rat
 p:List Rat
 L:Int
def eW (P:Pr)(t h:Rat)(y:List Rat):List (Rat×List Rat)->List (List Rat)->List (List Rat)->bv×List (List Rat)×List (List Rat)
 |[],m,f=>(aG,m,f)
 |(A,a)::C,m,f=>
  let b:=from_ y h a f
  let c:=fits P.L b f.length
  if c=aG then
   let r:=field P.L P.code P.os (t+h*A) b P.p
   if r.1=aG then eW P t h y C (m++[b]) (f++[r.2])else((r.1.1,r.1.2.1,f.length,r.1.2.2.2),[],[])
  else(c,[],[])
structure Md where
 ys:List (List Rat)
 ks:List (List Rat)
 next:List Rat
 err:List Rat
def err (P:Pr)(h:Rat)(c:List (List Rat)):List Rat:=if P.e=[]then[]else fh h (List.zipWith (λa b=>a-b) P.b P.e) c P.ar
def step (P:Pr)(t h:Rat)(y:List Rat):bv×Md:=
 let c:Md:=⟨[],[],[],[]⟩
 let a:=eW P t h y (List.zip P.c P.a) [] []
 if a.1=aG then
  let b:Md:=⟨a.2.1,a.2.2,from_ y h P.b a.2.2,err P h a.2.2⟩
  let d:=fits P.L b.next P.b.length
  let e:=fits P.L b.err (P.b.length+1)
  if d=aG then(if e=aG then(aG,b)else(e,c))else(d,c)
 else(a.1,c)
structure Ru where
 cZ:Rat
 safe:Rat
 low:Rat
 high:Rat
 least:Rat
 fi:Int
 mo:Int
structure Tr where
 t:Rat
 want:Rat
 h:Rat
 err:Rat
 y:List Rat
 ok:Bool
structure So where
 tries:List Tr
 t:Rat
 y:List Rat
 want:Rat
structure Tk where
 P:Pr
 r:Ru
 start:Rat
 stop:Rat
 first:Rat
 y:List Rat
def norm (l:List Rat):Rat:=l.foldl (λa b=>if a<dZ b then dZ b else a) 0
def may (k:Tk)(s:So):bv:=if(s.tries.length:Int)=k.r.mo then(5,s.tries.length+1,0,0)else if s.want<k.r.least then(4,s.tries.length+1,0,0)else aG
def size (k:Tk)(s:So):Rat:=Pc.cut s.t k.stop s.want
def made (k:Tk)(s:So):bv×Md:=step k.P s.t (size k s) s.y
def more (k:Tk)(s:So):So:=
 let c:=(made k s).2
 let b:=size k s
 let a:=norm c.err
 let ok:=decide (a<=k.r.cZ)
 ⟨s.tries++[⟨s.t,s.want,b,a,s.y,ok⟩],if ok then s.t+b else s.t,if ok then c.next else s.y,b*Pc.et k.r.cZ k.r.safe k.r.low k.r.high k.r.fi a⟩
def df (k:Tk)(s:So):bv:=if may k s=aG then(if(made k s).1=aG then aG else((made k s).1.1,s.tries.length+1,(made k s).1.2.2))else may k s
def ik (k:Tk):So:=⟨[],k.start,k.y,k.first⟩
def st (k:Tk):Nat->Option So
 |0=>U (ik k)
 |n+1=>match st k n with
  |none=>none
  |some f=>if f.t=k.stop then none else if df k f=aG then U (more k f)else none
end Z
open Go.RowKit Go.ChangeShapes Go.WideShapes Go.Deep
def db (x:Int):Prop:= -9223372036854775808<=x/\x<=9223372036854775807
def dc (w:O)(x:List W)(r:ba):Prop:= ∃b a,x=[H I r.op,H I r.a,H I r.b,J r.n.1,b,a]/\Ws w b r.n.2.1/\Ws w a r.n.2.2/\db r.op/\db r.a/\db r.b
theorem cV (T:an):Kn 6 T dc where
 kw:=λ⟨i,d,a,b,c,e⟩ f=>⟨i,d,a,b.kw f.1,c.kw f.1,e⟩
 ok:=λ⟨i,d,a,b,c,e⟩=>by
  obtain⟨l,p,n,j⟩:=b.shape;obtain⟨B,o,m,k⟩:=c.shape;subst a j k;refine⟨rfl,λq g=> ?_⟩;simp only[List.mem_cons,List.not_mem_nil,or_false]at g;rcases g with rfl|rfl|rfl|rfl|rfl|rfl<;>exact⟨trivial,rfl⟩
instance:Inhabited ba:=⟨⟨0,0,0,(false,[],[])⟩⟩
theorem Ae:Tryz.prog.cellsOf 160=6:=by kernel_rfl
theorem Af {enc:an×W->cD}{x:DataW cD×List MemPlace}(h:b7 enc ae aD 0 (λ_=>true) true cu 22 [v]=U x):∃rs,Sn dc aD v rs:=by
 rcases open_slice underlying22 h with⟨e,_⟩|⟨a,len,aH,aB,n,ai,aG,e,_,av,ax,Y,_,z⟩
 .simp at e;subst e;exact⟨[],Sn.nil dc aD⟩
 .simp at e Y;subst e Y
  have am:∀i,i<len-> ∃c:List W×ba,dc aD c.1 c.2/\ ∀(j:Nat) b,c.1[j]? =U b->aD.cell? (a.add (i*6+j))=U b:=λi aK=>by
   obtain⟨ah,S,az⟩:=z i (by omega);rw[Ae]at S;obtain⟨f,o,_,_,aL,aA,l⟩:=DataW.trod_struct underlying160 az;obtain⟨_,al,ak⟩:=World.cells?_some S
   match ah,al with
   |[m,c1,c2,c3,c4,c5],_=>
    have s:b7 enc ae aD 0 (λ_=>true) true o 3 (([m,c1,c2,c3,c4,c5].drop 0).take (Tryz.prog.cellsOf 3))=f[0]? :=l 0 _ rfl;have t:b7 enc ae aD 0 (λ_=>true) true o 3 (([m,c1,c2,c3,c4,c5].drop 1).take (Tryz.prog.cellsOf 3))=f[1]? :=l 1 _ rfl;have u:b7 enc ae aD 0 (λ_=>true) true o 3 (([m,c1,c2,c3,c4,c5].drop 2).take (Tryz.prog.cellsOf 3))=f[2]? :=l 2 _ rfl;have y:b7 enc ae aD 0 (λ_=>true) true o 34 (([m,c1,c2,c3,c4,c5].drop 3).take (Tryz.prog.cellsOf 34))=f[3]? :=l 3 _ rfl;have aN:f.length=4:=aA;have k1:Tryz.prog.cellsOf 3=1:=by kernel_rfl
    rw[k1]at s t u;rw[mn]at y;rw[aT (by omega)]at s t u y;obtain⟨G,M,_,aF⟩:=DataW.trod_int underlying3 s;obtain⟨K,N,_,w1⟩:=DataW.trod_int underlying3 t;obtain⟨L,P,_,w2⟩:=DataW.trod_int underlying3 u;simp at M N P;subst M N P;obtain⟨ab,af,aq,Z,aa,ag,aj,aC,q1,aE,aw,ay⟩:=sk y;subst aC q1 aE;refine⟨([H I G,H I K,H I L,J ab,D af Z.length ag,D aq aa.length aj],⟨G,K,L,(ab,Z,aa)⟩),⟨_,_,rfl,aw,ay,bounds_i64 aF,bounds_i64 w1,bounds_i64 w2⟩,λj b T=> ?_⟩;have ao:j<6:=(List.getElem?_eq_some_iff.1 T).1;have q:=ak j (by simpa using ao);rw[add_add]at q;rw[q];exact T
  obtain⟨d,g⟩:=choose_lt (α:=List W×ba) (p:=λi c=>dc aD c.1 c.2/\ ∀(j:Nat) b,c.1[j]? =U b->aD.cell? (a.add (i*6+j))=U b) am
  have A:∀x∈(List.range len).map (λi=>(d i).1),cQ 6 x:=λx F=>by
   obtain⟨i,z,rfl⟩:=List.mem_map.1 F;exact(cV 0).ok (g i (by simpa using z)).1
  refine⟨(List.range len).map λi=>(d i).2,U a,aB,(List.range len).map λi=>(d i).1,by simp,by simpa using av,ax,⟨by simp,λj x q Q R=> ?_⟩,kk (n:=len*6) (by rw[eL A];simp) λi b C=> ?_⟩
  .simp only[List.getElem?_map,Option.map_eq_some_iff]at Q R;obtain⟨k,V,rfl⟩:=Q;obtain⟨aO,X,rfl⟩:=R;rw[V]at X;cases X;obtain⟨ar,au⟩:=List.getElem?_eq_some_iff.1 V;simp at ar au;exact(g k (by omega)).1
  .have aJ:i<len*6:=by
    have:=(List.getElem?_eq_some_iff.1 C).1;rw[eL A]at this
    simpa using this
   obtain⟨q,r,B,aM,rfl⟩:∃q r,q<len/\r<6/\i=q*6+r:=⟨i/6,i%6,by omega,by omega,by omega⟩;have aI:(d q).1.length=6:=((cV 0).ok (g q B).1).1;have F:=oM A (j:=q) (x:=(d q).1) (by simp[B]) (i:=r) (aT (by omega));rw[F]at C;cases C;exact(g q B).2 r _ (aT (by omega))
open Go.RowKit
def Z.below (i m:Int):Bool:=decide (0<=i/\i<m)
theorem fj (i m:Int)(w:O):aj ae 139 #[H I i,H I m] w λe g=>e=aw (J (Z.below i m))/\w=g:=by
 by_cases b:0<=i
 .by_cases c:i<m
  .have a:Y (Z.below i m=true):=G (decide_eq_true ⟨b,c⟩);go_enter func139,ntmps139;go_wp2;go_ret;exact⟨by rw[a.out];rfl,rfl⟩
  .have a:Y (Z.below i m=false):=G (decide_eq_false λd=>c d.2);have f:decide (i<m)=false:=decide_eq_false c;clear c;go_enter func139,ntmps139;go_wp2;go_ret;exact⟨by rw[a.out];rfl,rfl⟩
 .have a:Y (Z.below i m=false):=G (decide_eq_false λd=>b d.1);have f:decide (0<=i)=false:=decide_eq_false b;have j:decide (i>=0)=false:=decide_eq_false b;clear b;go_enter func139,ntmps139;go_wp2;go_ret;exact⟨by rw[a.out];rfl,rfl⟩
def Z.blank (r:ay):Bool:=decide (r.1=false/\r.2.1.length=0/\r.2.2.length=0)
theorem ta {r:ay}{ai:Option am}(w:O):aj ae 172 #[af #[J r.1,D A r.2.1.length c,D ai r.2.2.length d]] w λe l=>e=aw (J (Z.blank r))/\V w l:=by
 obtain⟨j,g,i⟩:=r;unfold Z.blank;simp only;generalize g.length=b;generalize i.length=k;cases j
 .rcases Nat.eq_zero_or_pos b with rfl|n
  .rcases Nat.eq_zero_or_pos k with rfl|m
   .go_enter func172,ntmps172;go_wp2;go_ret;exact⟨rfl,(V.refl w).alloc _⟩
   .have a:Y (decide (false=false/\0=0/\k=0)=false):=G (decide_eq_false (by omega));have f:((k:Int)==0)=false:=by simp;omega
    rw[a.out];go_enter func172,ntmps172;go_wp2;go_ret;exact⟨rfl,(V.refl w).alloc _⟩
  .have a:Y (decide (false=false/\b=0/\k=0)=false):=G (decide_eq_false (by omega));have f:((b:Int)==0)=false:=by simp;omega
   rw[a.out];go_enter func172,ntmps172;go_wp2;go_ret;exact⟨rfl,(V.refl w).alloc _⟩
 .have a:Y (decide (true=false/\b=0/\k=0)=false):=G (decide_eq_false (by simp));rw[a.out];go_enter func172,ntmps172;go_wp2;go_ret;exact⟨rfl,(V.refl w).alloc _⟩
theorem Ag (w:O):(ct 265).run ae w= .ok true w:=by kernel_rfl
theorem Ah (w:O):(ci 265).run ae w= .ok 3 w:=by kernel_rfl
theorem mJ (o a b:Int)(s:Bool)(u d:W)(w:O):aj ae 171 #[af #[H I o,H I a,H I b,J s,u,d]] w λe g=>e=aw (af #[H I o,H I a,H I b])/\V w g:=by
 have c:V w ((w.alloc (ao #[H I o,H I a,H I b,J s,u,d] 114)).alloc (ao #[H I o,H I a,H I b] 265)):=((V.refl w).alloc _).alloc _;obtain⟨i,f⟩:=f6 114 265 w [H I o,H I a,H I b,J s,u,d] [H I o,H I a,H I b];go_enter func171,ntmps171;go_wp2;exact a4 (cl rfl rfl Ag Ah f rfl) rfl ⟨rfl,c⟩
def Z.reads (i:ba):List Int:=if i.op=6\/i.op=11 then[i.a]else if i.op=7\/i.op=8\/i.op=9\/i.op=10 then[i.a,i.b]else[]
def eX (w:O)(x:List W)(r:Int):Prop:=x=[H I r]
theorem i4 (T:an):Kn 1 T eX where
 kw:=λa _=>a
 ok:=λa=>by
  cases a;exact⟨rfl,λc b=>by simp at b;subst b;exact⟨trivial,rfl⟩⟩
theorem o6 {a:Int}(hb:Bx T w g [H I a]):Sn eX w (D (U ⟨g,0,none⟩) 1 1) [a]:=
 ⟨_,1,[[H I a]],rfl,by simp,by simp[cm],An.snoc (R:=eX w) (An.nil _) rfl,λ_=>⟨g,0,rfl,hb.lt,λc d b=>by rw[Nat.zero_add];exact hb.cell b⟩⟩
theorem mK {a b:Int}(hb:Bx T w g [H I a,H I b]):Sn eX w (D (U ⟨g,0,none⟩) 2 2) [a,b]:=
 ⟨_,2,[[H I a],[H I b]],rfl,by simp,by simp[cm],An.snoc (R:=eX w) (xs:=[[H I a]]) (qs:=[a]) (An.snoc (R:=eX w) (An.nil _) rfl) rfl,λ_=>⟨g,0,rfl,hb.lt,λd e c=>by rw[Nat.zero_add];exact hb.cell c⟩⟩
def Ai (l:List Int)(w:O)(e:aO)(b:O):Prop:= ∃a,e=aw a/\Sn eX b a l/\V w b
theorem Aj (i:ba)(s:Bool)(u d:W)(w:O):aj ae 173 #[af #[H I i.op,H I i.a,H I i.b,J s,u,d]] w (Ai (Z.reads i) w):=by
 obtain⟨o,a,b,e⟩:=i;simp only
 by_cases j:o=6
 .subst j;have c:Y (Z.reads ⟨6,a,b,e⟩=[a]):=G (by unfold Z.reads;simp);go_enter func173,ntmps173;go_wp2;go_ret;rw[c.out];exact⟨_,rfl,o6 (f6 114 3 w [H I 6,H I a,H I b,J s,u,d] [H I a]).2,((V.refl w).alloc _).alloc _⟩
 by_cases g:o=11
 .subst g;have c:Y (Z.reads ⟨11,a,b,e⟩=[a]):=G (by unfold Z.reads;simp);go_enter func173,ntmps173;go_wp2;go_ret;rw[c.out];exact⟨_,rfl,o6 (f6 114 3 w [H I 11,H I a,H I b,J s,u,d] [H I a]).2,((V.refl w).alloc _).alloc _⟩
 by_cases k:o=7
 .subst k;have c:Y (Z.reads ⟨7,a,b,e⟩=[a,b]):=G (by unfold Z.reads;simp);go_enter func173,ntmps173;go_wp2;go_ret;rw[c.out];exact⟨_,rfl,mK (f6 114 3 w [H I 7,H I a,H I b,J s,u,d] [H I a,H I b]).2,((V.refl w).alloc _).alloc _⟩
 by_cases l:o=8
 .subst l;have c:Y (Z.reads ⟨8,a,b,e⟩=[a,b]):=G (by unfold Z.reads;simp);go_enter func173,ntmps173;go_wp2;go_ret;rw[c.out];exact⟨_,rfl,mK (f6 114 3 w [H I 8,H I a,H I b,J s,u,d] [H I a,H I b]).2,((V.refl w).alloc _).alloc _⟩
 by_cases m:o=9
 .subst m;have c:Y (Z.reads ⟨9,a,b,e⟩=[a,b]):=G (by unfold Z.reads;simp);go_enter func173,ntmps173;go_wp2;go_ret;rw[c.out];exact⟨_,rfl,mK (f6 114 3 w [H I 9,H I a,H I b,J s,u,d] [H I a,H I b]).2,((V.refl w).alloc _).alloc _⟩
 by_cases f:o=10
 .subst f;have c:Y (Z.reads ⟨10,a,b,e⟩=[a,b]):=G (by unfold Z.reads;simp);go_enter func173,ntmps173;go_wp2;go_ret;rw[c.out];exact⟨_,rfl,mK (f6 114 3 w [H I 10,H I a,H I b,J s,u,d] [H I a,H I b]).2,((V.refl w).alloc _).alloc _⟩
 .have c:Y (Z.reads ⟨o,a,b,e⟩=[]):=G (by unfold Z.reads;simp[j,k,l,m,f,g]);have k6:(o==6)=false:=by simpa using j
  have p:(o==11)=false:=by simpa using g
  have k7:(o==7)=false:=by simpa using k
  have o7:(o==8)=false:=by simpa using l
  have q:(o==9)=false:=by simpa using m
  have n:(o==10)=false:=by simpa using f
  clear j k l m f g;go_enter func173,ntmps173;go_wp2;go_ret;rw[c.out];exact⟨_,rfl,Sn.nil _ _,(V.refl w).alloc _⟩
theorem gh {us:List W}(h:Bx T w g vs)(a:Bx S w g us):T=S:=by
 unfold Bx at h a;rw[h]at a;injection a with a
 injection a with _ a
theorem o8 {P:O->W->α->Prop}(c:Kp P){qs:List α}{old new:List W}(h:aA P S base w v qs)(b:Bs T g w ab old new)(a:v.ownBlock≠U g):aA P S base ab v qs:=
 aA.kept c h b.kw b.gr (.inr a)
theorem fk (h:n<=w.heap.size):∃w0:O,w0.heap.size=n/\V w0 w:=by
 refine⟨{w with heap:=w.heap.extract 0 n},by simp;omega,rfl,rfl,rfl,by simp;omega,λk a=> ?_⟩;have a:k<n:=by simpa using Nat.lt_of_lt_of_le a (by simp;omega)
 simp[Array.getElem?_extract,a];omega
end Go.Proofs.YtjopfpegcckllaaGreatDoor
