/- A part of TopStops's proof: SvSchR SvMix SvStage SvStage2. -/
import Derived.Deep.RegionHeld3
import Derived.Laws.RangeString
import Derived.Laws.RangeAny
import Derived.Deep.DeepCutAuto
import Derived.Test.YtjopfpegcckllaaGreatDoorZqAg
set_option linter.unusedVariables false
set_option linter.unusedSimpArgs false
set_option maxRecDepth 100000
set_option maxHeartbeats 12800000
open Go.Proofs.Tryz
open Go renaming World→O,Value→W,Calls→aj,Addr→am,maxLen→cm,TypeId→an,Ending→aO,isAgg→ct,bodyPost_ret→a4,wp_region_noPanic→aZ,wp_region_held_drew→a3,wpAnyH_done→aW
open Go.Act renaming put→bg
open Go.AllReadyH renaming cons→av,nil→bm
open Go.Ending renaming returned→aw
open Go.IntKind renaming i64→I
open Go.Lib renaming hid→G
open Go.NoPanic renaming normal→aX
open Go.Obj renaming cells→ao
open Go.Proofs.Tryz renaming prog→ae
open Go.RowKit renaming Hid→Y,intOf→aI
open Go.Value renaming tuple→aY,int→H,bool→J,slice→D,agg→af,pointer→az,string→al
open Go.World renaming setCell→ag,alloc→ah
open List renaming getElem_mem→cq,getD_eq_getElem?_getD→bz,getElem?_eq_getElem→aT,replicate→bA,take_length→co
open Nat renaming le_refl→a8,le_trans→aQ,zero_le→bn
open Option renaming some→U
variable {s1 s2 sh:Bool}{L a b c d s x0 x1 x2 x3:Int}{ks ls ys:List (List Rat)}{M cs l qs y:List Rat}{us vs x:List W}{c1 c2 c3 c4 cy d1 d2 g gg gm i j k kc kh kp kx ky m1 m2 n n1 n2 n3 n4 ny r:Nat}{ab w w0 w1:O}{A1 A2 D1 D2 HD HN YA j0:Option am}{h0 t:Rat}{pA pB pC pD pw px py pz u v vE vK vN va vb vc ve x4 x5 x6 x7 x8 x9:W}{S T:an}
namespace Go.Proofs.YtjopfpegcckllaaGreatDoor
open Go.RowKit
def Z.iE (c:Int):Bool:=decide (48<=c/\c<=57)
def Z.fK (c:Int):Bool:=decide ((97<=c/\c<=122)\/(65<=c/\c<=90)\/c=95)
def Z.hT (c:Int):Bool:=Z.fK c||Z.iE c
theorem kz (c:Int)(w:O):aj ae 196 #[H .u8 c] w λe i=>e=aw (J (Z.iE c))/\w=i:=by
 by_cases b:48<=c
 .by_cases d:c<=57
  .have a:Y (Z.iE c=true):=G (decide_eq_true ⟨b,d⟩);go_enter func196,ntmps196;go_wp2;go_ret;exact⟨by rw[a.out];rfl,rfl⟩
  .have a:Y (Z.iE c=false):=G (decide_eq_false λf=>d f.2);have g:decide (c<=57)=false:=decide_eq_false d;clear d;go_enter func196,ntmps196;go_wp2;go_ret;exact⟨by rw[a.out];rfl,rfl⟩
 .have a:Y (Z.iE c=false):=G (decide_eq_false λf=>b f.1);have g:decide (48<=c)=false:=decide_eq_false b;have j:decide (c>=48)=false:=decide_eq_false b;clear b;go_enter func196,ntmps196;go_wp2;go_ret;exact⟨by rw[a.out];rfl,rfl⟩
theorem mV (c:Int)(w:O):aj ae 197 #[H .u8 c] w λe m=>e=aw (J (Z.fK c))/\w=m:=by
 by_cases a:97<=c
 .by_cases d:c<=122
  .have b:Y (Z.fK c=true):=G (decide_eq_true (by omega));go_enter func197,ntmps197;go_wp2;go_ret;exact⟨by rw[b.out];rfl,rfl⟩
  .have b:Y (Z.fK c=false):=G (decide_eq_false (by omega));have f:decide (c<=122)=false:=decide_eq_false d;have g:decide (c<=90)=false:=decide_eq_false (by omega);have i:65<=c:=by omega
   have l:(c==95)=false:=by rw[beq_eq_false_iff_ne];omega
   clear d;go_enter func197,ntmps197;go_wp2;go_ret;exact⟨by rw[b.out];rfl,rfl⟩
 .by_cases d:65<=c
  .by_cases i:c<=90
   .have b:Y (Z.fK c=true):=G (decide_eq_true (by omega));have f:decide (97<=c)=false:=decide_eq_false a;have g:decide (c>=97)=false:=decide_eq_false a;clear a;go_enter func197,ntmps197;go_wp2;go_ret;exact⟨by rw[b.out];rfl,rfl⟩
   .have l:decide (c<=90)=false:=decide_eq_false i
    by_cases j:c=95
    .have b:Y (Z.fK c=true):=G (decide_eq_true (by omega));have k:(c==95)=true:=by rw[beq_iff_eq];exact j
     clear j i;have f:decide (97<=c)=false:=decide_eq_false a;have g:decide (c>=97)=false:=decide_eq_false a;clear a;go_enter func197,ntmps197;go_wp2;go_ret;exact⟨by rw[b.out];rfl,rfl⟩
    .have b:Y (Z.fK c=false):=G (decide_eq_false (by omega));have k:(c==95)=false:=by rw[beq_eq_false_iff_ne];exact j
     clear j i;have f:decide (97<=c)=false:=decide_eq_false a;have g:decide (c>=97)=false:=decide_eq_false a;clear a;go_enter func197,ntmps197;go_wp2;go_ret;exact⟨by rw[b.out];rfl,rfl⟩
  .have b:Y (Z.fK c=false):=G (decide_eq_false (by omega));have k:(c==95)=false:=by rw[beq_eq_false_iff_ne];omega
   have f:decide (97<=c)=false:=decide_eq_false a;have g:decide (c>=97)=false:=decide_eq_false a;clear a;have n:decide (65<=c)=false:=decide_eq_false d;have o:decide (c>=65)=false:=decide_eq_false d;clear d;go_enter func197,ntmps197;go_wp2;go_ret;exact⟨by rw[b.out];rfl,rfl⟩
def BW (w:O)(e:aO)(b:O):Prop:= ∃a:Bool,e=aw (J a)/\V w b
theorem tH (w:O)(s:ByteArray)(pos:Nat):V w (w.iter s pos):=(V.refl w).alloc _
theorem BX (s:ByteArray)(pos:Nat)(h:pos<s.size):1<=(Utf8.decode s pos).2:=by
 by_cases ha:(s[pos]'h).toNat<128
 .rw[decode_ascii s pos h ha];exact a8 _
 .exact(decode_high s pos h (by omega)).2
theorem BY (c:Int)(w:O):aj ae 198 #[H .u8 c] w (BW w):=by
 go_enter func198,ntmps198;go_wp2;generalize({data:=#[43,45,42,47,94,40,41,91,93,44,59,61]}:ByteArray)=a
 go_loopw[4] (λ_ e=> ∃pos:Nat,e=w.iter a pos) (λ_ e=>a.size-e.iterPos w.heap.size)
 case atStart=>exact⟨0,rfl⟩
 case round=>
  obtain⟨pos,rfl⟩:=hrel
  by_cases d:pos<a.size
  .have g:∀b,(Instr.next (az (U ⟨w.heap.size,0,none⟩)) true b).run ae (w.iter a pos)=_:=λb=>run_next_any w a pos b d
   have i:=BX a pos d;have f:=G i;go_wp2
   .go_ret;exact⟨true,rfl,tH _ _ _⟩
   .go_roundw
    case rel=>exact⟨_,rfl⟩
    case measure=>
     have:=f.out;simp;omega
  .have g:∀b,(Instr.next (az (U ⟨w.heap.size,0,none⟩)) true b).run ae (w.iter a pos)=_:=λb=>run_next_end w a pos b d
   go_wp2;go_ret;exact⟨false,rfl,tH _ _ _⟩
def BZ (c:Int)(w:O)(e:aO)(b:O):Prop:= ∃a:Int,e=aw (H I a)/\(a==2)=Z.fK c/\V w b
theorem Ca (h:Z.iE c=true):Z.fK c=false:=by
 have:=of_decide_eq_true h;exact decide_eq_false (by omega)
theorem mW (c:Int)(w:O):aj ae 174 #[H .u8 c] w (BZ c w):=by
 cases g:Z.iE c
 .cases e:Z.fK c
  .have a:=G e;go_enter func174,ntmps174;go_wp2_with(first|(go_at_call 196;refine(kz _ _).mono ?_;rintro b d ⟨rfl,rfl⟩)|(go_at_call 197;refine(mV _ _).mono ?_;rintro b d ⟨rfl,rfl⟩));refine(BY _ _).mono ?_;rintro b d ⟨i,rfl,f⟩;cases i
   .go_wp2;go_ret;exact⟨0,rfl,by rw[a.out];rfl,f⟩
   .go_wp2;go_ret;exact⟨3,rfl,by rw[a.out];rfl,f⟩
  .have a:=G e;go_enter func174,ntmps174;go_wp2_with(first|(go_at_call 196;refine(kz _ _).mono ?_;rintro b d ⟨rfl,rfl⟩)|(go_at_call 197;refine(mV _ _).mono ?_;rintro b d ⟨rfl,rfl⟩));go_ret;exact⟨2,rfl,by rw[a.out];rfl,V.refl _⟩
 .have a:=G (Ca g);go_enter func174,ntmps174;go_wp2_with(go_at_call 196;refine(kz _ _).mono ?_;rintro b d ⟨rfl,rfl⟩);go_ret;exact⟨1,rfl,by rw[a.out];rfl,V.refl _⟩
theorem tI (w:O):aj ae 176 #[H I 2] w λe a=>e=aw (H I 12)/\w=a:=by
 go_enter func176,ntmps176;go_wp2;go_ret;exact⟨rfl,rfl⟩
theorem tJ (c:Int)(w:O):aj ae 199 #[H I 2,H .u8 c] w λe a=>e=aw (J (Z.hT c))/\w=a:=by
 cases d:Z.fK c
 .have b:Y (Z.hT c=Z.iE c):=G (by unfold Z.hT;rw[d];rfl);go_enter func199,ntmps199;go_wp2_with(first|(go_at_call 196;refine(kz _ _).mono ?_;rintro e a ⟨rfl,rfl⟩)|(go_at_call 197;refine(mV _ _).mono ?_;rintro e a ⟨rfl,rfl⟩));go_ret;exact⟨by rw[b.out];rfl,rfl⟩
 .have b:Y (Z.hT c=true):=G (by unfold Z.hT;rw[d];rfl);go_enter func199,ntmps199;go_wp2_with(first|(go_at_call 196;refine(kz _ _).mono ?_;rintro e a ⟨rfl,rfl⟩)|(go_at_call 197;refine(mV _ _).mono ?_;rintro e a ⟨rfl,rfl⟩));go_ret;exact⟨by rw[b.out];rfl,rfl⟩
def Z.ja (s:ByteArray)(i:Nat):Int:=if h:i<s.size then((s[i]'h).toNat:Nat)else 0
theorem mX {s:ByteArray}(h:i<s.size):Z.ja s i=((s[i]'h).toNat:Nat):=dif_pos h
def Z.jF (s:ByteArray):Bool:=(List.range s.size).all λi=>i==0||Z.hT (Z.ja s i)
def Z.fL (s:ByteArray):Bool:=decide (0<s.size)&&(Z.fK (Z.ja s 0)&&(Z.jF s&&decide (s.size<=12)))
theorem Cb {s:ByteArray}(h:0<s.size):s.toList.isEmpty=false:=by
 obtain⟨⟨f⟩⟩:=s;rw[ByteArray.toList_eq];cases f with
 |nil=>exact absurd h (by decide)
 |cons a f=>rfl
theorem Cc:(⟨#[]⟩:ByteArray).toList.isEmpty=true:=by
 unfold ByteArray.toList;rw[ByteArray.toList.loop];rfl
def Cd (t:Bool)(m:Nat)(w:O)(e:aO)(b:O):Prop:= ∃a:Nat,e=aw (H I (a:Int))/\((a:Int)==(m:Int))=t/\w=b
theorem pu (s:ByteArray)(h0:0<s.size)(h1:s.size<=1000000)(w:O):aj ae 175 #[al s,H I 2] w (Cd (Z.jF s) s.size w):=by
 go_enter func175,ntmps175;go_wp2
 go_loop [5] (λi=> ∃a:Nat,i=H I (a:Int)/\1<=a/\a<=s.size/\Y (∀b,1<=b->b<a->Z.hT (Z.ja s b)=true)) (λi=>s.size-(aI i).toNat)
 case atStart=>exact⟨1,rfl,a8 _,h0,G (λb h1 o=>by omega)⟩
 case round=>
  obtain⟨a,rfl,p,q,e⟩:=hrel
  by_cases g:a<s.size
  .have k1:(a:Int)<(s.size:Int):=by omega
   have t:(0:Int)<=(a:Int):=by omega
   have u:((a:Int)).toNat=a:=by omega
   cases d:Z.hT (Z.ja s a)
   .have f:Y (Z.jF s=false):=G (Bool.eq_false_iff.2 λk=>by
     have:=List.all_eq_true.1 k a (List.mem_range.2 g);rw[d]at this;simp at this;omega)
    rw[mX g]at d;go_wp2_with(go_at_call 199;refine(tJ _ _).mono ?_;rintro c n ⟨rfl,rfl⟩);go_ret;exact⟨a,rfl,by rw[f.out,beq_eq_false_iff_ne];omega,rfl⟩
   .have j:Y (∀b,1<=b->b<a+1->Z.hT (Z.ja s b)=true):=G (λb m r=>by
     by_cases c:b=a
     .subst c;exact d
     .exact e.out b m (by omega))
    rw[mX g]at d;clear e;go_wp2_with(go_at_call 199;refine(tJ _ _).mono ?_;rintro c n ⟨rfl,rfl⟩)
    go_round
    case rel=>exact⟨a+1,by go_num,by omega,by omega,j⟩
    case measure=>simp[aI];omega
  .obtain rfl:a=s.size:=by omega
   have k1:¬((s.size:Int)<(s.size:Int)):=by omega
   have f:Y (Z.jF s=true):=G (List.all_eq_true.2 λb l=>by
    rw[Bool.or_eq_true]
    by_cases c:b=0
    .exact .inl (by simp[c])
    .exact .inr (e.out b (by omega) (List.mem_range.1 l)))
   go_wp2;go_ret;exact⟨s.size,rfl,by rw[f.out,beq_self_eq_true],rfl⟩
theorem tK (s:ByteArray)(h1:s.size<=1000000)(w:O):aj ae 140 #[af #[H I 2,al s,H I 0]] w λe f=>e=aw (J (Z.fL s))/\V w f:=by
 by_cases p:0<s.size
 rotate_left
 .have l:Y (Z.fL s=false):=G (by unfold Z.fL;rw[decide_eq_false p];rfl)
  have K:s=⟨#[]⟩:=by
   obtain⟨⟨C⟩⟩:=s;have p:¬0<C.length:=p;obtain rfl:C=[]:=List.length_eq_zero_iff.1 (by omega);rfl
  subst K;clear p;have F:(⟨#[]⟩:ByteArray).toList.isEmpty=true:=Cc;generalize(⟨#[]⟩:ByteArray)=s at*;go_enter func140,ntmps140;go_wp2_with fail;generalize j:ah w _=n at*;obtain⟨a,g⟩:=aC j;clear j;have o:=g.c3;obtain⟨b,c,d⟩:=o;revert a g b c d;refine b8 (V.refl n).drew ?_;intro a g b c d
  refine aZ ?_;refine a3 (S:=λf=>V w f/\f.cell? ⟨w.heap.size,0,none⟩=U (H I 2)/\f.cell? ⟨w.heap.size,1,none⟩=U (al s)/\f.cell? ⟨w.heap.size,2,none⟩=U (H I 0)) (by kernel_rfl) ?_ (λk=> ?_)
  .with_reducible exact⟨a,b,c,d⟩
  refine aa 0 ?_;refine aa 1 ?_;refine aa 2 ?_;refine aa 3 ?_;refine dI 4 ?_;refine dI 5 ?_;refine dI 6 ?_;refine aa 7 ?_;refine aa 8 ?_;refine dI 9 ?_;refine dI 10 ?_;refine dI 11 ?_;refine dI 12 ?_;refine dI 13 ?_;refine dI 14 ?_;refine dI 15 ?_;refine aa 16 ?_;refine aW (by kernel_rfl) ?_ _;refine aX ?_;go_wp2;go_ret;exact⟨by rw[l.out];rfl,a⟩
 have x:=G p;have F:s.toList.isEmpty=false:=Cb p;cases q:Z.fK (Z.ja s 0)
 .have l:Y (Z.fL s=false):=G (by unfold Z.fL;rw[q];simp);rw[mX p]at q;go_enter func140,ntmps140;go_wp2_with fail;generalize j:ah w _=n at*;obtain⟨a,g⟩:=aC j;clear j;have o:=g.c3;obtain⟨b,c,d⟩:=o;revert a g b c d;refine b8 (V.refl n).drew ?_;intro a g b c d
  go_region_held3(λf=>V w f/\f.cell? ⟨w.heap.size,0,none⟩=U (H I 2)/\f.cell? ⟨w.heap.size,1,none⟩=U (al s)/\f.cell? ⟨w.heap.size,2,none⟩=U (H I 0))
   (first|with_reducible exact⟨a,b,c,d⟩|with_reducible exact⟨(a.alloc_drew _),(aJ b),(aJ c),(aJ d)⟩|with_reducible exact⟨(a.dt _ _),(aK b),(aK c),(aK d)⟩|go_keep)
   ((first
     |(go_at_call 174
       with_reducible refine(mW _ _).mono ?_
       rintro e t ⟨A,rfl,r,u1⟩;revert a g b c d;revert u1;refine dH ?_;intro a g b c d)))
  all_goals
   rw[q]at r;go_wp2;go_ret;exact⟨by rw[l.out];rfl,a⟩
 have y:Y (Z.fL s=(Z.jF s&&decide (s.size<=12))):=G (by unfold Z.fL;rw[q,decide_eq_true p];rfl);rw[mX p]at q;cases u:Z.jF s
 .have l:Y (Z.fL s=false):=G (by rw[y.out,u];rfl);go_enter func140,ntmps140;go_wp2_with fail;generalize j:ah w _=n at*;obtain⟨a,g⟩:=aC j;clear j;have o:=g.c3;obtain⟨b,c,d⟩:=o;revert a g b c d;refine b8 (V.refl n).drew ?_;intro a g b c d
  go_region_held3(λf=>V w f/\f.cell? ⟨w.heap.size,0,none⟩=U (H I 2)/\f.cell? ⟨w.heap.size,1,none⟩=U (al s)/\f.cell? ⟨w.heap.size,2,none⟩=U (H I 0))
   (first|with_reducible exact⟨a,b,c,d⟩|with_reducible exact⟨(a.alloc_drew _),(aJ b),(aJ c),(aJ d)⟩|with_reducible exact⟨(a.dt _ _),(aK b),(aK c),(aK d)⟩|go_keep)
   ((first
     |(go_at_call 174
       with_reducible refine(mW _ _).mono ?_
       rintro e t ⟨A,rfl,r,u1⟩;revert a g b c d;revert u1;refine dH ?_;intro a g b c d)))
  all_goals
   rw[q]at r;go_wp2_with fail;revert a g b c d;refine b8 (V.refl t).drew ?_;intro a g b c d
   refine aZ ?_;refine a3 (S:=λf=>V w f/\f.cell? ⟨w.heap.size,0,none⟩=U (H I 2)/\f.cell? ⟨w.heap.size,1,none⟩=U (al s)/\f.cell? ⟨w.heap.size,2,none⟩=U (H I 0)) (by kernel_rfl) ?_ (λk=> ?_)
   .with_reducible exact⟨a,b,c,d⟩
   refine aa 0 ?_;refine aa 1 ?_;refine aa 2 ?_;refine aa 3 ?_;refine aa 5 ?_;refine aa 6 ?_;refine aa 7 ?_;refine bZ 4 (λm i=> ?_);go_simp
   (first
     |(go_at_call 175
       with_reducible refine(pu s x.out h1 _).mono ?_
       rintro e B ⟨D,rfl,v,rfl⟩;rw[u]at v))
   try go_wp2_with fail
   try clear k
   refine i.out _ _ ?_ (λk=> ?_)
   .with_reducible exact⟨a,b,c,d⟩
   clear i m
   try simp only[bc,bg]
   refine aa 8 ?_;refine aa 9 ?_;refine dI 10 ?_;refine dI 11 ?_;refine dI 12 ?_;refine dI 13 ?_;refine dI 14 ?_;refine dI 15 ?_;refine dI 16 ?_;refine aa 17 ?_;refine aa 18 ?_;refine aW (by kernel_rfl) ?_ _;refine aX ?_;go_wp2;go_ret;exact⟨by rw[l.out];rfl,a⟩
 .by_cases z:s.size<=12
  .have l:Y (Z.fL s=true):=G (by rw[y.out,u,decide_eq_true z];rfl);have L:(s.size:Int)<=12:=by omega
   go_enter func140,ntmps140;go_wp2_with fail;generalize j:ah w _=n at*;obtain⟨a,g⟩:=aC j;clear j;have o:=g.c3;obtain⟨b,c,d⟩:=o;revert a g b c d;refine b8 (V.refl n).drew ?_;intro a g b c d
   go_region_held3(λf=>V w f/\f.cell? ⟨w.heap.size,0,none⟩=U (H I 2)/\f.cell? ⟨w.heap.size,1,none⟩=U (al s)/\f.cell? ⟨w.heap.size,2,none⟩=U (H I 0))
    (first|with_reducible exact⟨a,b,c,d⟩|with_reducible exact⟨(a.alloc_drew _),(aJ b),(aJ c),(aJ d)⟩|with_reducible exact⟨(a.dt _ _),(aK b),(aK c),(aK d)⟩|go_keep)
    ((first
      |(go_at_call 174
        with_reducible refine(mW _ _).mono ?_
        rintro e t ⟨A,rfl,r,u1⟩;revert a g b c d;revert u1;refine dH ?_;intro a g b c d)))
   all_goals
    rw[q]at r;go_wp2_with fail;revert a g b c d;refine b8 (V.refl t).drew ?_;intro a g b c d
    refine aZ ?_;refine a3 (S:=λf=>V w f/\f.cell? ⟨w.heap.size,0,none⟩=U (H I 2)/\f.cell? ⟨w.heap.size,1,none⟩=U (al s)/\f.cell? ⟨w.heap.size,2,none⟩=U (H I 0)) (by kernel_rfl) ?_ (λk=> ?_)
    .with_reducible exact⟨a,b,c,d⟩
    refine aa 0 ?_;refine aa 1 ?_;refine aa 2 ?_;refine aa 3 ?_;refine aa 5 ?_;refine aa 6 ?_;refine aa 7 ?_;refine bZ 4 (λm i=> ?_);go_simp
    (first
      |(go_at_call 175
        with_reducible refine(pu s x.out h1 _).mono ?_
        rintro e B ⟨D,rfl,v,rfl⟩;rw[u]at v))
    try go_wp2_with fail
    try clear k
    refine i.out _ _ ?_ (λk=> ?_)
    .with_reducible exact⟨a,b,c,d⟩
    clear i m
    try simp only[bc,bg]
    refine aa 8 ?_;refine aa 9 ?_;refine aa 10 ?_;refine aa 11 ?_;refine aa 12 ?_;refine aa 13 ?_;refine aa 14 ?_;refine bZ 15 (λm i=> ?_);go_simp
    (first
      |(go_at_call 176
        with_reducible refine(tI _).mono ?_
        rintro e E ⟨rfl,rfl⟩))
    try go_wp2_with fail
    try clear k
    refine i.out _ _ ?_ (λk=> ?_)
    .with_reducible exact⟨a,b,c,d⟩
    clear i m
    try simp only[bc,bg]
    refine aa 16 ?_;refine aa 17 ?_;refine aa 18 ?_;refine aW (by kernel_rfl) ?_ _;refine aX ?_;go_wp2;go_ret;exact⟨by rw[l.out];rfl,a⟩
  .have l:Y (Z.fL s=false):=G (by rw[y.out,u,decide_eq_false z];rfl);have L:decide ((s.size:Int)<=12)=false:=decide_eq_false (by omega);clear z;go_enter func140,ntmps140;go_wp2_with fail;generalize j:ah w _=n at*;obtain⟨a,g⟩:=aC j;clear j;have o:=g.c3;obtain⟨b,c,d⟩:=o;revert a g b c d;refine b8 (V.refl n).drew ?_;intro a g b c d
   go_region_held3(λf=>V w f/\f.cell? ⟨w.heap.size,0,none⟩=U (H I 2)/\f.cell? ⟨w.heap.size,1,none⟩=U (al s)/\f.cell? ⟨w.heap.size,2,none⟩=U (H I 0))
    (first|with_reducible exact⟨a,b,c,d⟩|with_reducible exact⟨(a.alloc_drew _),(aJ b),(aJ c),(aJ d)⟩|with_reducible exact⟨(a.dt _ _),(aK b),(aK c),(aK d)⟩|go_keep)
    ((first
      |(go_at_call 174
        with_reducible refine(mW _ _).mono ?_
        rintro e t ⟨A,rfl,r,u1⟩;revert a g b c d;revert u1;refine dH ?_;intro a g b c d)))
   all_goals
    rw[q]at r;go_wp2_with fail;revert a g b c d;refine b8 (V.refl t).drew ?_;intro a g b c d
    refine aZ ?_;refine a3 (S:=λf=>V w f/\f.cell? ⟨w.heap.size,0,none⟩=U (H I 2)/\f.cell? ⟨w.heap.size,1,none⟩=U (al s)/\f.cell? ⟨w.heap.size,2,none⟩=U (H I 0)) (by kernel_rfl) ?_ (λk=> ?_)
    .with_reducible exact⟨a,b,c,d⟩
    refine aa 0 ?_;refine aa 1 ?_;refine aa 2 ?_;refine aa 3 ?_;refine aa 5 ?_;refine aa 6 ?_;refine aa 7 ?_;refine bZ 4 (λm i=> ?_);go_simp
    (first
      |(go_at_call 175
        with_reducible refine(pu s x.out h1 _).mono ?_
        rintro e B ⟨D,rfl,v,rfl⟩;rw[u]at v))
    try go_wp2_with fail
    try clear k
    refine i.out _ _ ?_ (λk=> ?_)
    .with_reducible exact⟨a,b,c,d⟩
    clear i m
    try simp only[bc,bg]
    refine aa 8 ?_;refine aa 9 ?_;refine aa 10 ?_;refine aa 11 ?_;refine aa 12 ?_;refine aa 13 ?_;refine aa 14 ?_;refine bZ 15 (λm i=> ?_);go_simp
    (first
      |(go_at_call 176
        with_reducible refine(tI _).mono ?_
        rintro e E ⟨rfl,rfl⟩))
    try go_wp2_with fail
    try clear k
    refine i.out _ _ ?_ (λk=> ?_)
    .with_reducible exact⟨a,b,c,d⟩
    clear i m
    try simp only[bc,bg]
    refine aa 16 ?_;refine aa 17 ?_;refine aa 18 ?_;refine aW (by kernel_rfl) ?_ _;refine aX ?_;go_wp2;go_ret;exact⟨by rw[l.out];rfl,a⟩
def aN (l:List ay):List Rat:=l.map ay.val
theorem Sq.aN {w:O}{v:W}{rs:List ay}{k:Nat}(h:Sq Rw w v rs)(a:∀r∈rs,r.bd k)(h1:1<=k):aU k w v (aN rs):=h.map _ λv r b c=>c.fr (a r b) h1
theorem cU.map {α eU:Type}{P:O->W->α->Prop}{Q:O->W->eU->Prop}{w:O}{v:W}{ls:List (List α)}(h:cU P w v ls)(f:List α->List eU)(n:∀u l,l∈ls->Sq P w u l->Sq Q w u (f l)):cU Q w v (ls.map f):=by
 obtain⟨e,c,vs,h1,h2,g,j,k,m⟩:=h;refine⟨e,c,vs,by simpa using h1,by simpa using h2,g,by simpa using j,k,λi u l o a=> ?_⟩;simp only[List.getElem?_map,Option.map_eq_some_iff]at a;obtain⟨d,b,rfl⟩:=a;exact n u d (List.mem_of_getElem? b) (m i u d o b)
theorem cU.aN {w:O}{v:W}{ls:List (List ay)}{k:Nat}(h:cU Rw w v ls)(a:∀l∈ls,∀r∈l,r.bd k)(h1:1<=k):cU (cX k) w v (ls.map aN):=h.map _ λu l b c=>Sq.aN c (a l b) h1
theorem Ce {α:Type}{P:O->W->α->Prop}{w:O}{T:an}{g:Nat}{u v x:W}{l m n:List α}(hb:Bx T w g [u,v,x])(h1:Sq P w u l)(h2:Sq P w v m)(c:Sq P w x n):cU P w (D (U ⟨g,0,none⟩) 3 3) [l,m,n]:=by
 refine⟨_,3,[u,v,x],rfl,by simp,by simp[cm],rfl,λ_=>⟨g,0,rfl,hb.lt,λe u d=>by rw[Nat.zero_add];exact hb.cell d⟩,λf i k a b=> ?_⟩
 match f with
 |0=>simp at a b;subst a b;exact h1
 |1=>simp at a b;subst a b;exact h2
 |2=>simp at a b;subst a b;exact c
 |f+3=>simp at a
def Z.dj (nm:ByteArray)(c:List ay)(a:List (List ay))(b e:List ay):Bool:=
 Z.fL nm&&(Z.eY b.length c.length e.length (a.map List.length)&&(Z.gY a&&(Z.gY [b,c,e]&&(Z.jE (a.map aN) (aN c)&&(decide ((aN b).sum=1)&&(decide (e.length=0)||decide ((aN e).sum=1)))))))
structure eg (w:O) (vc va vb ve:W) (c:List ay) (a:List (List ay)) (b e:List ay):Prop where
 c:Sq Rw w vc c
 a:cU Rw w va a
 b:Sq Rw w vb b
 e:Sq Rw w ve e
theorem eg.up {w ab:O}{vc va vb ve:W}{c:List ay}{a:List (List ay)}{b e:List ay}(h:eg w vc va vb ve c a b e)(d:V w ab):eg ab vc va vb ve c a b e:=⟨h.c.up cG d,h.a.up cG d,h.b.up cG d,h.e.up cG d⟩
instance eg.bW {w ab:O} {vc va vb ve:W} {c:List ay} {a:List (List ay)} {b e:List ay}:Lu (V w ab) (eg w vc va vb ve c a b e) (eg ab vc va vb ve c a b e):=bu λu h=>h.up u
structure kA (nm:ByteArray) (c:List ay) (a:List (List ay)) (b e:List ay):Prop where
 n:nm.size<=100
 lc:c.length<=10
 la:a.length<=10
 lb:b.length<=10
 le:e.length<=10
 tL:∀l∈a,l.length<=10
 c:∀r∈c,r.bd 4
 a:∀l∈a,∀r∈l,r.bd 4
 b:∀r∈b,r.bd 4
 e:∀r∈e,r.bd 4
theorem mY {l:List ay}(h:∀r∈l,r.bd j)(a:j<=k):∀r∈l,r.bd k:=λr b=>⟨aQ (h r b).1 a,aQ (h r b).2 a⟩
def Cf (t:Bool)(w:O)(e:aO)(b:O):Prop:= ∃a:Int,e=aw (H I a)/\(a==0)=t/\V w b
theorem tM (h:∀q∈qs,E.Lq q k)(a:qs.length<=n):∀j,E.Lq ((qs.take j).sum) (n*(k+1)+2):=λj=>(pt qs h j).mono (by have:=Nat.mul_le_mul_right (k+1) a;omega)
theorem tN {nm:ByteArray}{c:List ay}{a:List (List ay)}{b e:List ay}(h:eg w vc va vb ve c a b e)(y:Y (kA nm c a b e)):
 aj ae 105 #[af #[al nm,vc,va,vb,ve]] w (Cf (Z.dj nm c a b e) w):=by
 obtain⟨az,aE,rfl⟩:=h.c.form;obtain⟨av,aD,rfl⟩:=h.a.form;obtain⟨B,cb,rfl⟩:=h.b.form;obtain⟨ai,aF,rfl⟩:=h.e.form;have F:=G h;clear h;obtain⟨a9,ag⟩:∃C,Y (Z.fL nm=C):=⟨_,G rfl⟩;obtain⟨ba,R⟩:∃C,Y (Z.eY b.length c.length e.length (a.map List.length)=C):=⟨_,G rfl⟩;obtain⟨bb,ak⟩:∃C,Y (Z.gY a=C):=⟨_,G rfl⟩;obtain⟨bd,am⟩:∃C,Y (Z.gY [b,c,e]=C):=⟨_,G rfl⟩;obtain⟨bh,an⟩:∃C,Y (Z.jE (a.map aN) (aN c)=C):=⟨_,G rfl⟩;obtain⟨bi,ao⟩:∃C,Y (decide ((aN b).sum=1)=C):=⟨_,G rfl⟩;obtain⟨aT,aR⟩:∃C,Y (decide ((aN e).sum=1)=C):=⟨_,G rfl⟩;have bz:=y.out.la;have bB:=y.out.lc;have bA:=y.out.lb;have bC:=y.out.le;have bD:=y.out.n;go_enter func105,ntmps105;go_wp2_with fail;generalize M:ah w _=bl at*;obtain⟨d,f⟩:=aC M;clear M;have x:=f.c5
 with_reducible refine(fd (n:=1) (by omega) _).mono ?_
 rintro e H ⟨a2,rfl,o,u1⟩;revert d f x;revert u1;refine bX ?_;intro d f x;have g:Fr H a2 ((1:Int):Rat) 2:=o.fr (dR (by omega));obtain⟨ab,aA⟩:∃a1,Y (((1:Int):Rat)=a1):=⟨_,G rfl⟩;rw[aA.out]at o g;obtain⟨bu,bv,rfl,o,i⟩:=o;obtain⟨aw,no,aG,rfl⟩:=o.shape;obtain⟨ax,aJ,aH,rfl⟩:=i.shape;have aB:=f.d5;go_wp2_with fail;clear aB;generalize M:ah H _=bo at*;obtain⟨aK,one⟩:=aC M;clear M;have bw:=f.lt;revert d f x o i g;revert aK;refine dX ?_;intro d f x o i g;have A:=one.c3
 with_reducible refine(tK nm (by omega) _).mono ?_
 rintro e bp ⟨rfl,u3⟩;revert one d f x o i g A;revert u3;refine el ?_;intro one d f x o i g A;rw[ag.out];cases a9
 .skip;have v:Y (Z.dj nm c a b e=false):=G (by unfold Z.dj;rw[ag.out];simp);go_wp2;go_ret;exact⟨1,rfl,by rw[v.out];rfl,d⟩
 go_wp2_with fail
 with_reducible refine(BR cG (F.out.up d).a (by omega)).mono ?_
 rintro e bq ⟨rfl,u4⟩;revert one d f x o i g A;revert u4;refine el ?_;intro one d f x o i g A;rw[R.out];cases ba
 .skip;have v:Y (Z.dj nm c a b e=false):=G (by unfold Z.dj;rw[R.out];simp);go_wp2;go_ret;exact⟨2,rfl,by rw[v.out];rfl,d⟩
 have aY:Y (a.length=c.length):=G (by have:=of_decide_eq_true R.out;simp only[List.length_map]at this;omega);go_wp2_with fail
 with_reducible refine(tF (F.out.up d).a (by omega) (G λQ K=>aQ (y.out.tL Q K) (by omega)) (G λQ K=>mY (y.out.a Q K) (by omega))).mono ?_
 rintro e a4 ⟨rfl,u5⟩;revert one d f x o i g A;revert u5;refine el ?_;intro one d f x o i g A;rw[ak.out];cases bb
 .skip;have v:Y (Z.dj nm c a b e=false):=G (by unfold Z.dj;rw[ak.out];simp);go_wp2;go_ret;exact⟨3,rfl,by rw[v.out];rfl,d⟩
 have aB:=f.d5;have a8:=one.d3;go_wp2_with fail;clear aB a8;generalize M:ah a4 _=br at*;obtain⟨aK,u⟩:=aC M;clear M;have bx:=f.lt;have bE:=one.lt;revert one d f x o i g A;revert aK;refine el ?_;intro one d f x o i g A;have T:=u.c3
 with_reducible refine(tF (Ce u (F.out.up d).b (F.out.up d).c (F.out.up d).e) (by simp) (G λQ K=>by simp at K;rcases K with rfl|rfl|rfl<;>omega) (G λQ K=>by simp at K;rcases K with rfl|rfl|rfl;exact mY y.out.b (by omega);exact mY y.out.c (by omega);exact mY y.out.e (by omega))).mono ?_
 rintro e bs ⟨rfl,u7⟩;revert u one d f x o i g A T;revert u7;refine eG ?_;intro u one d f x o i g A T;rw[am.out];cases bd
 .skip;have v:Y (Z.dj nm c a b e=false):=G (by unfold Z.dj;rw[am.out];simp);go_wp2;go_ret;exact⟨3,rfl,by rw[v.out];rfl,d⟩
 go_wp2_with fail
 with_reducible refine(BV (cs:=aN c) (rs:=a.map aN) ((F.out.up d).c.aN y.out.c (by omega)) ((F.out.up d).a.aN y.out.a (by omega)) (by have:=aY.out;unfold aN;simp;omega) (by simp;omega) (G λQ K=>by obtain⟨a7,a5,rfl⟩:=List.mem_map.1 K;have:=y.out.tL a7 a5;unfold aN;simp;omega) (by omega) (by omega) ⟨_,_,_,rfl⟩ ⟨_,_,_,rfl⟩).mono ?_
 rintro e aS ⟨rfl,u8⟩;revert u one d f x o i g A T;revert u8;refine eG ?_;intro u one d f x o i g A T;rw[an.out];cases bh
 .skip;have v:Y (Z.dj nm c a b e=false):=G (by unfold Z.dj;rw[an.out];simp);go_wp2;go_ret;exact⟨4,rfl,by rw[v.out];rfl,d⟩
 have aL:Y (∀aI,E.Lq (((aN b).take aI).sum) (10*(4+1)+2)):=G (tM ((F.out.up d).b.aN y.out.b (by omega)).lq (by unfold aN;simp;omega));have aM:Y (∀aI,E.Lq (((aN e).take aI).sum) (10*(4+1)+2)):=G (tM ((F.out.up d).e.aN y.out.e (by omega)).lq (by unfold aN;simp;omega));have aU:Y (E.Lq (aN b).sum (10*(4+1)+2)):=G (by have:=aL.out (aN b).length;rwa [co]at this);have aV:Y (E.Lq (aN e).sum (10*(4+1)+2)):=G (by have:=aM.out (aN e).length;rwa [co]at this);have aO:Y (ab=1):=G aA.out.symm;go_wp2_with fail;obtain⟨k,l,m,p,q⟩:=x;obtain⟨r,s,t⟩:=A;have z:=T;revert u one d f o i g k l m p q;refine au (V.refl aS).drew ?_;intro u one d f o i g k l m p q;revert r s t z;refine bf (V.refl aS).drew ?_;intro r s t z;refine aZ ?_;refine a3 (S:=λj=>V w j/\j.cell? ⟨w.heap.size,0,none⟩=U (al nm)/\j.cell? ⟨w.heap.size,1,none⟩=U (D az c.length aE)/\j.cell? ⟨w.heap.size,2,none⟩=U (D av a.length aD)/\j.cell? ⟨w.heap.size,3,none⟩=U (D B b.length cb)/\j.cell? ⟨w.heap.size,4,none⟩=U (D ai e.length aF)/\j.cell? ⟨H.heap.size,0,none⟩=U (J (E.aB ab.num))/\j.cell? ⟨H.heap.size,1,none⟩=U (D aw no aG)/\j.cell? ⟨H.heap.size,2,none⟩=U (D ax aJ aH)) (by kernel_rfl) ?_ (λL=> ?_)
 .with_reducible exact⟨d,k,l,m,p,q,r,s,t⟩
 refine aa 0 ?_;refine aa 1 ?_;refine aa 3 ?_;refine bZ 2 (λN I=> ?_);go_simp
 (first
   |(go_at_call 144
     with_reducible refine(po ((F.out.up d).b.aN y.out.b (by omega)) (by unfold aN;simp;omega) (by omega) aL (by omega)).mono ?_
     rintro e bt ⟨bk,rfl,P,u9⟩;revert u one d f o i g k l m p q;refine au u9 ?_;intro u one d f o i g k l m p q;revert r s t z;refine bf u9 ?_;intro r s t z
     try(replace P:=P.up u9)
     clear u9))
 try go_wp2_with fail
 try clear L
 refine I.out _ _ ?_ (λL=> ?_)
 .with_reducible exact⟨d,k,l,m,p,q,r,s,t⟩
 clear I N
 try simp only[bc,bg]
 refine bZ 4 (λN I=> ?_);go_simp
 (first
   |(go_at_call 11
     with_reducible refine(ic (Qw.fr P aU.out) g (by omega) (by omega)).mono ?_
     rintro e aq ⟨rfl,u10⟩;revert u one d f o i g k l m p q;refine au u10 ?_;intro u one d f o i g k l m p q;revert r s t z;refine bf u10 ?_;intro r s t z
     try(replace P:=P.up u10)
     clear u10;rw[aO.out,ao.out]))
 try go_wp2_with fail
 try clear L
 refine I.out _ _ ?_ (λL=> ?_)
 .with_reducible exact⟨d,k,l,m,p,q,r,s,t⟩
 clear I N
 try simp only[bc,bg]
 refine aa 5 ?_;refine aa 6 ?_;refine aW (by kernel_rfl) ?_ _;refine aX ?_;clear P;clear aA;cases bi
 .skip;have v:Y (Z.dj nm c a b e=false):=G (by unfold Z.dj;rw[ao.out];simp);go_wp2;go_ret;exact⟨5,rfl,by rw[v.out];rfl,d⟩
 by_cases ar:e.length=0
 .have a6:(0<e.length)=False:=eq_false (by omega);have v:Y (Z.dj nm c a b e=true):=G (by unfold Z.dj;rw[ag.out,R.out,ak.out,am.out,an.out,ao.out,decide_eq_true ar];rfl);clear ar;go_wp2_with fail;revert u one d f o i g k l m p q;refine au (V.refl aq).drew ?_;intro u one d f o i g k l m p q;revert r s t z;refine bf (V.refl aq).drew ?_;intro r s t z
  refine aZ ?_;refine a3 (S:=λj=>V w j/\j.cell? ⟨w.heap.size,0,none⟩=U (al nm)/\j.cell? ⟨w.heap.size,1,none⟩=U (D az c.length aE)/\j.cell? ⟨w.heap.size,2,none⟩=U (D av a.length aD)/\j.cell? ⟨w.heap.size,3,none⟩=U (D B b.length cb)/\j.cell? ⟨w.heap.size,4,none⟩=U (D ai e.length aF)/\j.cell? ⟨H.heap.size,0,none⟩=U (J (E.aB ab.num))/\j.cell? ⟨H.heap.size,1,none⟩=U (D aw no aG)/\j.cell? ⟨H.heap.size,2,none⟩=U (D ax aJ aH)) (by kernel_rfl) ?_ (λL=> ?_)
  .with_reducible exact⟨d,k,l,m,p,q,r,s,t⟩
  refine aa 0 ?_;refine aa 1 ?_;refine aa 2 ?_;refine aa 3 ?_;refine aa 4 ?_;refine dI 5 ?_;refine dI 6 ?_;refine dI 7 ?_;refine dI 8 ?_;refine dI 9 ?_;refine dI 10 ?_;refine aa 11 ?_;refine aa 12 ?_;refine aW (by kernel_rfl) ?_ _;refine aX ?_;go_wp2;go_ret;exact⟨0,rfl,by rw[v.out];rfl,d⟩
 .have a6:(0<e.length)=True:=eq_true (by omega);have aP:Y (Z.dj nm c a b e=aT):=G (by unfold Z.dj;rw[ag.out,R.out,ak.out,am.out,an.out,ao.out,aR.out,decide_eq_false ar];rfl);clear ar;go_wp2_with fail;revert u one d f o i g k l m p q;refine au (V.refl aq).drew ?_;intro u one d f o i g k l m p q;revert r s t z;refine bf (V.refl aq).drew ?_;intro r s t z
  refine aZ ?_;refine a3 (S:=λj=>V w j/\j.cell? ⟨w.heap.size,0,none⟩=U (al nm)/\j.cell? ⟨w.heap.size,1,none⟩=U (D az c.length aE)/\j.cell? ⟨w.heap.size,2,none⟩=U (D av a.length aD)/\j.cell? ⟨w.heap.size,3,none⟩=U (D B b.length cb)/\j.cell? ⟨w.heap.size,4,none⟩=U (D ai e.length aF)/\j.cell? ⟨H.heap.size,0,none⟩=U (J (E.aB ab.num))/\j.cell? ⟨H.heap.size,1,none⟩=U (D aw no aG)/\j.cell? ⟨H.heap.size,2,none⟩=U (D ax aJ aH)) (by kernel_rfl) ?_ (λL=> ?_)
  .with_reducible exact⟨d,k,l,m,p,q,r,s,t⟩
  refine aa 0 ?_;refine aa 1 ?_;refine aa 2 ?_;refine aa 3 ?_;refine aa 4 ?_;refine aa 5 ?_;refine aa 6 ?_;refine aa 8 ?_;refine bZ 7 (λN I=> ?_);go_simp
  (first
    |(go_at_call 144
      with_reducible refine(po ((F.out.up d).e.aN y.out.e (by omega)) (by unfold aN;simp;omega) (by omega) aM (by omega)).mono ?_
      rintro e bm ⟨bj,rfl,X,u11⟩;revert u one d f o i g k l m p q;refine au u11 ?_;intro u one d f o i g k l m p q;revert r s t z;refine bf u11 ?_;intro r s t z
      try(replace X:=X.up u11)
      clear u11))
  try go_wp2_with fail
  try clear L
  refine I.out _ _ ?_ (λL=> ?_)
  .with_reducible exact⟨d,k,l,m,p,q,r,s,t⟩
  clear I N
  try simp only[bc,bg]
  refine bZ 9 (λN I=> ?_);go_simp
  (first
    |(go_at_call 11
      with_reducible refine(ic (Qw.fr X aV.out) g (by omega) (by omega)).mono ?_
      rintro e bn ⟨rfl,u12⟩;revert u one d f o i g k l m p q;refine au u12 ?_;intro u one d f o i g k l m p q;revert r s t z;refine bf u12 ?_;intro r s t z
      try(replace X:=X.up u12)
      clear u12;rw[aO.out,aR.out]))
  try go_wp2_with fail
  try clear L
  refine I.out _ _ ?_ (λL=> ?_)
  .with_reducible exact⟨d,k,l,m,p,q,r,s,t⟩
  clear I N
  try simp only[bc,bg]
  refine aa 10 ?_;refine aa 11 ?_;refine aa 12 ?_;refine aW (by kernel_rfl) ?_ _;refine aX ?_;cases aT
  .have v:=aP;go_wp2;go_ret;exact⟨6,rfl,by rw[v.out];rfl,d⟩
  .have v:=aP;go_wp2;go_ret;exact⟨0,rfl,by rw[v.out];rfl,d⟩
theorem pv {nm:ByteArray}{c:List ay}{a:List (List ay)}{b e:List ay}(h:Z.dj nm c a b e=true):1<=b.length/\b.length<=8/\c.length=b.length/\a.length=b.length/\(e.length=b.length\/e.length=0)/\a.map List.length=List.range a.length/\Z.gY a=true/\Z.gY [b,c,e]=true:=by
 unfold Z.dj Z.eY at h;simp only[Bool.and_eq_true,decide_eq_true_eq,List.length_map]at h;obtain⟨_,⟨d,f,g,i,j,k⟩,l,m,_⟩:=h;exact⟨d,f,g,i,j,k,l,m⟩
theorem tO {nm:ByteArray}{c:List ay}{a:List (List ay)}{b e:List ay}(h:eg w vc va vb ve c a b e)(l:Y (kA nm c a b e)):
 aj ae 63 #[af #[al nm,vc,va,vb,ve]] w λx m=>x=aw (J (Z.dj nm c a b e))/\V w m:=by
 have g:=G h;obtain⟨o,t,rfl⟩:=h.c.form;obtain⟨n,s,rfl⟩:=h.a.form;obtain⟨B,cb,rfl⟩:=h.b.form;obtain⟨ai,u,rfl⟩:=h.e.form;clear h;go_enter func63,ntmps63;go_wp2_with fail;generalize f:ah w _=p at*;obtain⟨d,j⟩:=aC f;clear f;have r:=j.c5
 ((with_reducible refine(tN (g.out.up d) l).mono ?_))
 rintro x q ⟨v,rfl,k,u1⟩;have i:=d.trans u1;go_wp2;go_ret;exact⟨by rw[<-k];rfl,i⟩
def Z.iF (b e:List Rat):List Rat:=if e=[]then[]else List.zipWith (λx y=>x-y) b e
theorem Cg {nm:ByteArray}{c:List ay}{a:List (List ay)}{b e:List ay}(h:eg w vc va vb ve c a b e)(g:Y (kA nm c a b e))(n:Y (Z.dj nm c a b e=true)):
 aj ae 78 #[af #[al nm,vc,va,vb,ve]] w (dT 9 (Z.iF (aN b) (aN e)) w):=by
 have i:=G h;obtain⟨y,H,rfl⟩:=h.c.form;obtain⟨x,F,rfl⟩:=h.a.form;obtain⟨B,cb,rfl⟩:=h.b.form;obtain⟨ai,I,rfl⟩:=h.e.form;clear h;have K:=g.out.le;have J:=g.out.lb;go_enter func78,ntmps78;go_wp2_with fail;generalize m:ah w _=A at*;obtain⟨d,k⟩:=aC m;clear m;have l:=k.c5
 with_reducible refine(tO (i.out.up d) g).mono ?_
 rintro e C ⟨rfl,u1⟩;revert d k l;revert u1;refine bX ?_;intro d k l;rw[n.out]
 by_cases f:e.length=0
 .have j:Y (Z.iF (aN b) (aN e)=[]):=G (by rw[List.length_eq_zero_iff]at f;rw[f];rfl);have t:((e.length:Int)==0)=true:=by rw[beq_iff_eq];omega
  clear f;go_wp2;go_ret;exact⟨_,rfl,by rw[j.out];exact aA.nil _ _ _ _,d⟩
 .have j:Y (Z.iF (aN b) (aN e)=List.zipWith (λo v=>o-v) (aN b) (aN e)):=G (by unfold Z.iF;rw[if_neg (by intro s;exact f (by simpa[aN]using s))])
  have p:Y ((aN e).length=(aN b).length):=G (by
   have:=(pv n.out).2.2.2.2.1;unfold aN;simp;omega)
  have t:((e.length:Int)==0)=false:=by rw[beq_eq_false_iff_ne];omega
  clear f;go_wp2_with fail;have r:=d
  ((with_reducible refine(Bg ((i.out.up d).b.aN g.out.b (by omega)) ((i.out.up d).e.aN g.out.e (by omega)) (by unfold aN;simp;omega) p.out (by omega) (by omega) (by omega) (by omega)).mono ?_))
  rintro o E ⟨z,rfl,u,u9⟩;have q:=d.trans u9;go_wp2;go_ret;exact⟨_,rfl,by rw[j.out];exact u.weaken r,q⟩
structure Pb where
 code:List ba
 os:List Int
 ar:Int
 par:Int
 nm:ByteArray
 c:List ay
 a:List (List ay)
 b:List ay
 e:List ay
 p:List Rat
 bits:Int
def Pb.pr (q:Pb):Z.Pr:=⟨q.code,q.os,q.ar.toNat,aN q.c,q.a.map aN,aN q.b,aN q.e,q.p,Ga.a5 q.bits⟩
def Pb.right (q:Pb):Bool:=Z.c9 q.code q.os q.ar q.par&&(Z.dj q.nm q.c q.a q.b q.e&&decide ((q.p.length:Int)=q.par))
structure eD (q:Pb):Prop where
 bd:∀i∈q.code,i.n.bd 1000
 lc:q.code.length<=1000000
 lo:q.os.length<=1000000
 ar:db q.ar
 par:db q.par
 iq:kA q.nm q.c q.a q.b q.e
 r9:q.p.length<=1000
 bits:db q.bits
def c7 (o:Nat)(w:O)(x:List W)(q:Pb):Prop:= ∃f i g j d l b k c cb e m a n,x=[D f q.code.length i,D g q.os.length j,H I q.ar,H I q.par,al q.nm,D d q.c.length l,D b q.a.length k,D c q.b.length cb,D e q.e.length m,D a q.p.length n,H I q.bits]/\
 Sn dc w (D f q.code.length i) q.code/\c0 w (D g q.os.length j) q.os/\eg w (D d q.c.length l) (D b q.a.length k) (D c q.b.length cb) (D e q.e.length m) q.c q.a q.b q.e/\aU o w (D a q.p.length n) q.p
theorem c7.up {kp:Nat}{w ab:O}{x:List W}{q:Pb}(h:c7 kp w x q)(a:V w ab):c7 kp ab x q:=by
 obtain⟨g,j,i,k,e,m,c,l,d,cb,f,n,b,o,h1,h2,p,r,s⟩:=h;exact⟨g,j,i,k,e,m,c,l,d,cb,f,n,b,o,h1,h2.up (cV 0) a,p.up a,r.up a,s.up a⟩
instance c7.bW {kp:Nat} {w ab:O} {x:List W} {q:Pb}:Lu (V w ab) (c7 kp w x q) (c7 kp ab x q):=bu λu h=>h.up u
theorem kB {q:Pb}(h:q.right=true):Z.c9 q.code q.os q.ar q.par=true/\Z.dj q.nm q.c q.a q.b q.e=true/\(q.p.length:Int)=q.par:=by
 unfold Pb.right at h
 simpa using h
theorem mZ {q:Pb}(h:c7 kp w x q)(d:Y (eD q)):aj ae 34 #[af x.toArray] w λe C=>e=aw (J q.right)/\V w C:=by
 obtain⟨L,R,M,S,I,U,F,T,H,cb,K,X,E,aa,rfl,p,m,o,n⟩:=h;have u:=G p;have s:=G m;have t:=G o;have D:=G n;clear p m o n;obtain⟨z,j⟩:∃f,Y (Z.c9 q.code q.os q.ar q.par=f):=⟨_,G rfl⟩;obtain⟨A,l⟩:∃f,Y (Z.dj q.nm q.c q.a q.b q.e=f):=⟨_,G rfl⟩;obtain⟨B,g⟩:∃f,Y (decide ((q.p.length:Int)=q.par)=f):=⟨_,G rfl⟩;have ab:=d.out.lc;have ag:=d.out.lo;go_enter func34,ntmps34;go_wp2_with fail;generalize r:ah w _=N at*;obtain⟨a,c⟩:=aC r;clear r;have i:=c.ek
 with_reducible refine(pj (u.out.up (cV 0) a) (s.out.up a) (G λy v=>pl (d.out.bd y v) (by omega)) d.out.ar (by omega) (by omega)).mono ?_
 rintro e P ⟨rfl,u1⟩;revert a c i;revert u1;refine bX ?_;intro a c i;rw[j.out];cases z
 .skip;have b:Y (q.right=false):=G (by unfold Pb.right;rw[j.out];simp);go_wp2;go_ret;exact⟨by rw[b.out];rfl,a⟩
 go_wp2_with fail
 with_reducible refine(tO (t.out.up a) (G d.out.iq)).mono ?_
 rintro e Q ⟨rfl,u2⟩;revert a c i;revert u2;refine bX ?_;intro a c i;rw[l.out];cases A
 .skip;have b:Y (q.right=false):=G (by unfold Pb.right;rw[l.out];simp);go_wp2;go_ret;exact⟨by rw[b.out];rfl,a⟩
 cases B
 .have k:((q.p.length:Int)==q.par)=false:=by rw[beq_eq_false_iff_ne];exact of_decide_eq_false g.out
  have b:Y (q.right=false):=G (by unfold Pb.right;rw[g.out];simp);go_wp2;go_ret;exact⟨by rw[b.out];rfl,a⟩
 .have k:((q.p.length:Int)==q.par)=true:=by rw[beq_iff_eq];exact of_decide_eq_true g.out
  have b:Y (q.right=true):=G (by unfold Pb.right;rw[j.out,l.out,g.out];rfl);go_wp2;go_ret;exact⟨by rw[b.out];rfl,a⟩
theorem ip (w:O):(ct 49).run ae w= .ok true w:=by kernel_rfl
theorem tP {q:Pb}{k1 k2:Nat}(h:c7 kp w x q)(aL:Y (eD q))(bj:i<q.c.length)(L:Fr w (af #[J s1,D A1 n1 c1,D D1 m1 d1]) t k1)(K:Fr w (af #[J s2,D A2 n2 c2,D D2 m2 d2]) h0 k2)(bC:k1<=1000000)(bD:k2<=1000000):
 aj ae 117 #[af x.toArray,af #[J s1,D A1 n1 c1,D D1 m1 d1],af #[J s2,D A2 n2 c2,D D2 m2 d2],H I (i:Int)] w (dq (t+h0*(aN q.c).getD i 0) w):=by
 obtain⟨a2,a8,a4,a9,br,bb,aV,ba,aY,cb,a1,bd,aU,bf,rfl,aI,aF,aH,aG⟩:=h;have bq:=G aI;have bn:=G aF;have aS:=G aH;have bp:=G aG;clear aI aF aH aG;have bE:=aL.out.iq.lc;have aK:i<(aN q.c).length:=by unfold aN;simpa using bj
 have aQ:=G (aS.out.c.aN aL.out.iq.c (by omega));obtain⟨F,o,aA,ak,ax,ar,an,ay,av,bi,hb,aD,aE,g3,d⟩:=aQ.out.sq.at_ (bF 4) aK;subst bi;have aB:Y ((aN q.c).getD i 0=(aN q.c)[i]):=G (by rw[bz,aT aK];rfl);rw[aB.out];generalize(aN q.c)[i]=aP at*;have d:Fr w (af #[J aA,D ak ax ar,D an ay av]) aP 4:=d;have Z:Y (∀a,V w a->a.cell? ⟨F,o+i*3,none⟩=U (J aA)/\a.cell? ⟨F,o+i*3+1,none⟩=U (D ak ax ar)/\a.cell? ⟨F,o+i*3+2,none⟩=U (D an ay av)):=G λa aw=>⟨(aw.cell (p:=⟨F,o+i*3,none⟩) hb).trans aD,(aw.cell (p:=⟨F,o+i*3+1,none⟩) hb).trans aE,(aw.cell (p:=⟨F,o+i*3+2,none⟩) hb).trans g3⟩
 obtain⟨aM,ao⟩:∃ai,Y (h0*aP=ai):=⟨_,G rfl⟩;obtain⟨ai,aC⟩:∃ai,Y (t+aM=ai):=⟨_,G rfl⟩;rw[ao.out,aC.out];have aR:Y (E.Lq aM (k2+4)):=G (by rw[<-ao.out];exact K.lq.mul d.lq);have bH:¬((i:Int)<0):=by omega
 have bI:(i:Int)<(q.c.length:Int):=by omega
 have bG:(0:Int)<=(i:Int):=by omega
 have bJ:((i:Int)).toNat=i:=by omega
 clear aD aE g3 aB;go_enter func117,ntmps117;go_wp2_with fail;generalize aJ:ah (ah (ah (ah w _) _) _) _=aq at*;obtain⟨b,P,Q,R,c⟩:=dn aJ;clear aJ;revert L K d;refine bo b ?_;intro L K d;have a5:=P.ek;have a6:=Q.c3;have a7:=R.c3;have bk:=c.c3;have az:=c.free;obtain⟨e,f,j,k,l,m,n,r,s,u,g⟩:=a5;obtain⟨v,y,z⟩:=a6;obtain⟨A,B,C⟩:=a7;have ag:=bk;revert b P Q R c L K d e f j k;refine au (V.refl aq).drew ?_;intro b P Q R c L K d e f j k;revert l m n r s u g v y z A B;refine au (V.refl aq).drew ?_;intro l m n r s u g v y z A B;revert C;refine cj (V.refl aq).drew ?_;intro C;have ag:=c.c3;have az:=c.free;refine aZ ?_;refine a3 (S:=λa=>V w a/\a.cell? ⟨w.heap.size,0,none⟩=U (D a2 q.code.length a8)/\a.cell? ⟨w.heap.size,1,none⟩=U (D a4 q.os.length a9)/\a.cell? ⟨w.heap.size,2,none⟩=U (H I q.ar)/\a.cell? ⟨w.heap.size,3,none⟩=U (H I q.par)/\a.cell? ⟨w.heap.size,4,none⟩=U (al q.nm)/\a.cell? ⟨w.heap.size,5,none⟩=U (D (U ⟨F,o,none⟩) q.c.length bb)/\a.cell? ⟨w.heap.size,6,none⟩=U (D aV q.a.length ba)/\a.cell? ⟨w.heap.size,7,none⟩=U (D aY q.b.length cb)/\a.cell? ⟨w.heap.size,8,none⟩=U (D a1 q.e.length bd)/\a.cell? ⟨w.heap.size,9,none⟩=U (D aU q.p.length bf)/\a.cell? ⟨w.heap.size,10,none⟩=U (H I q.bits)/\a.cell? ⟨w.heap.size+1,0,none⟩=U (J s1)/\a.cell? ⟨w.heap.size+1,1,none⟩=U (D A1 n1 c1)/\a.cell? ⟨w.heap.size+1,2,none⟩=U (D D1 m1 d1)/\a.cell? ⟨w.heap.size+1+1,0,none⟩=U (J s2)/\a.cell? ⟨w.heap.size+1+1,1,none⟩=U (D A2 n2 c2)/\a.cell? ⟨w.heap.size+1+1,2,none⟩=U (D D2 m2 d2)/\a.cell? ⟨F,o+i*3,none⟩=U (J aA)/\a.cell? ⟨F,o+i*3+1,none⟩=U (D ak ax ar)/\a.cell? ⟨F,o+i*3+2,none⟩=U (D an ay av)) (by kernel_rfl) ?_ (λT=> ?_)
 .exact⟨b,e,f,j,k,l,m,n,r,s,u,g,v,y,z,A,B,C,Z.out _ b⟩
 refine aa 0 ?_;refine aa 1 ?_;refine aa 2 ?_;refine aa 3 ?_;refine aa 4 ?_;refine aa 5 ?_;refine aa 6 ?_;refine aa 7 ?_;refine bZ 8 (λab N=> ?_);go_simp
 (first
   |(go_at_call 38
     with_reducible refine(ib K d (by omega) (by omega)).mono ?_
     rintro bh bu ⟨bs,rfl,X,u1⟩;revert b P Q R c L K d e f j k;refine au u1 ?_;intro b P Q R c L K d e f j k;revert l m n r s u g v y z A B;refine au u1 ?_;intro l m n r s u g v y z A B;revert C ag;refine cR u1 ?_;intro C ag
     try(replace X:=X.up u1)
     try(replace M:=M.up u1)
     replace az:=c.free;clear u1;rw[ao.out]at X))
 try go_wp2_with fail
 try clear T
 refine N.out _ _ ?_ (λT=> ?_)
 .exact⟨b,e,f,j,k,l,m,n,r,s,u,g,v,y,z,A,B,C,Z.out _ b⟩
 clear N ab
 try simp only[bc,bg]
 refine bZ 9 (λab N=> ?_);go_simp
 (first
   |(go_at_call 61
     with_reducible refine(gc L (X.fr aR.out) (by omega) (by omega)).mono ?_
     rintro bh bv ⟨bt,rfl,M,u2⟩;revert b P Q R c L K d e f j k;refine au u2 ?_;intro b P Q R c L K d e f j k;revert l m n r s u g v y z A B;refine au u2 ?_;intro l m n r s u g v y z A B;revert C ag;refine cR u2 ?_;intro C ag
     try(replace X:=X.up u2)
     try(replace M:=M.up u2)
     replace az:=c.free;clear u2;rw[aC.out]at M;obtain⟨bw,bx,rfl,M,aO⟩:=M;obtain⟨bl,bK,bA,rfl⟩:=M.shape;obtain⟨bm,bL,bB,rfl⟩:=aO.shape))
 try go_wp2_with fail
 try clear T
 refine N.out _ _ ?_ (λT=> ?_)
 .exact⟨b,e,f,j,k,l,m,n,r,s,u,g,v,y,z,A,B,C,Z.out _ b⟩
 clear N ab
 try simp only[bc,bg]
 refine bZ 10 (λab N=> ?_);go_simp;skip
 try go_wp2_with fail
 try clear T
 refine N.out _ _ ?_ (λT=> ?_)
 ·(first|exact⟨b,e,f,j,k,l,m,n,r,s,u,g,v,y,z,A,B,C,Z.out _ b⟩|((try simp only[<-World.setCell_drew]);first|exact⟨(us (us (us b))),(cf (cf (cf e))),(cf (cf (cf f))),(cf (cf (cf j))),(cf (cf (cf k))),(cf (cf (cf l))),(cf (cf (cf m))),(cf (cf (cf n))),(cf (cf (cf r))),(cf (cf (cf s))),(cf (cf (cf u))),(cf (cf (cf g))),(cf (cf (cf v))),(cf (cf (cf y))),(cf (cf (cf z))),(cf (cf (cf A))),(cf (cf (cf B))),(cf (cf (cf C))),Z.out _ (us (us (us b)))⟩))
 clear N ab
 try simp only[bc,bg]
 refine aW (by kernel_rfl) ?_ _;refine aX ?_;go_wp2_with fail;exact di rfl rfl rfl ⟨_,_,rfl,M,aO⟩ c trivial trivial trivial b (by omega)
theorem Ch {q:Pb}(h:c7 kp w x q):
 aj ae 116 #[af x.toArray,af #[J s1,D A1 n1 c1,D D1 m1 d1],D j0 ny cy] w λe l=>e=aw (af #[J s1,D A1 n1 c1,D D1 m1 d1,D j0 ny cy,x.getD 9 undef])/\V w l:=by
 obtain⟨y,E,z,F,u,I,s,H,t,cb,v,K,r,L,rfl,d,a,c,b⟩:=h;have p:=G d;have m:=G a;have o:=G c;have n:=G b;clear d a c b;go_enter func116,ntmps116;go_wp2_with fail;generalize f:ah (ah (ah w _) _) _=A at*;obtain⟨i,j,k,g⟩:=dm f;clear f;have B:=j.ek;have C:=k.c3;have M:=g.c5;exact a4 (cl rfl rfl tw tx g rfl) rfl ⟨rfl,i⟩
namespace Z
def bR (x:Rat)(r:List Rat)(j:Nat)(M:List Rat):List Rat:=(List.range M.length).map λp=>if p<j then M.getD p 0+x*r.getD p 0 else M.getD p 0
theorem iZ (x:Rat)(r:List Rat)(j:Nat)(M:List Rat):(bR x r j M).length=M.length:=by simp[bR]
theorem oS (x:Rat)(r M:List Rat):bR x r 0 M=M:=by
 apply List.ext_getElem (by simp[bR]);intro c b a;simp[bR,bz,aT a]
theorem Ci {x:Rat}{r:List Rat}(a:j<(bR x r j M).length):(bR x r j M)[j]=M.getD j 0:=by simp[bR]
theorem Cj {x:Rat}{r:List Rat}(h:j<M.length):(bR x r j M).set j (M.getD j 0+x*r.getD j 0)=bR x r (j+1) M:=by
 apply List.ext_getElem (by simp[bR]);intro c d e;simp only[bR,List.getElem_set,List.getElem_map,List.getElem_range]
 by_cases a:j=c
 .subst a;rw[if_pos rfl,if_pos (Nat.lt_succ_self j)]
 .rw[if_neg a]
  by_cases b:c<j
  .rw[if_pos b,if_pos (by omega)]
  .rw[if_neg b,if_neg (by omega)]
theorem Ck (r:List Rat)(j:Nat)(M:List Rat):bR 0 r j M=M:=by
 apply List.ext_getElem (by simp[bR]);intro c b a;simp[bR,bz,aT a,Rat.zero_mul,Rat.add_zero]
theorem ir (c:List Rat)(a:List (List Rat))(n:Nat):(mix c a n).length=n:=by simp[mix]
theorem Cl (n:Nat):mix [] [] n=bA n 0:=by
 apply List.ext_getElem (by simp[mix]);intro c a b;simp[mix]
theorem Cn {c:List Rat}(f:Rat->List Rat->Rat)(h:i<c.length)(h2:i<ks.length):List.zipWith f (c.take (i+1)) (ks.take (i+1))=List.zipWith f (c.take i) (ks.take i)++[f c[i] ks[i]]:=by
 rw[List.take_succ_eq_append_getElem h,List.take_succ_eq_append_getElem h2,List.zipWith_append (by simp;omega)];rfl
theorem Co {c:List Rat}(h:i<c.length)(h2:i<ks.length):mix (c.take (i+1)) (ks.take (i+1)) n=bR c[i] ks[i] n (mix (c.take i) (ks.take i) n):=by
 apply List.ext_getElem (by simp[mix,bR]);intro p b d;have a:p<n:=by simpa[mix]using b
 simp only[mix,bR,List.getElem_map,List.getElem_range,List.length_map,List.length_range];rw[if_pos a,Cn _ h h2,List.sum_append,List.sum_cons,List.sum_nil,Rat.add_zero]
 congr 1
 simp[bz,a]
end Z
theorem aL.lx {A:Option am}{c:Nat}(h:aL k w0 w (D A n c) qs)(d:j<qs.length):
 ∃g s B m f ai b a,A=U ⟨g,0,none⟩/\w0.heap.size<=g/\g<w.heap.size/\w.cell? ⟨g,j*3,none⟩=U (J s)/\w.cell? ⟨g,j*3+1,none⟩=U (D B m f)/\w.cell? ⟨g,j*3+2,none⟩=U (D ai b a)/\Qk k w (af #[J s,D B m f,D ai b a]) qs[j]/\(∀i,w.frozen? ⟨g,i,none⟩=false):=aA.at_ (aR k) h d
theorem aL.store {K:Nat}{w0 w:O}{g n c:Nat}{qs:List Rat}(h:aL K w0 w (D (U ⟨g,0,none⟩) n c) qs)(f:V w0 w){k:Nat}(b:k<qs.length){s:Bool}{u d:W}{q:Rat}(e:Qk K w (af #[J s,u,d]) q):
 aL K w0 (((w.setCell ⟨g,k*3,none⟩ (J s)).setCell ⟨g,k*3+1,none⟩ u).setCell ⟨g,k*3+2,none⟩ d) (D (U ⟨g,0,none⟩) n c) (qs.set k q)/\Kw w (((w.setCell ⟨g,k*3,none⟩ (J s)).setCell ⟨g,k*3+1,none⟩ u).setCell ⟨g,k*3+2,none⟩ d)/\
  V w0 (((w.setCell ⟨g,k*3,none⟩ (J s)).setCell ⟨g,k*3+1,none⟩ u).setCell ⟨g,k*3+2,none⟩ d):=by
 obtain⟨h1,h2,_,a⟩:=aA.store (aR K) h f b e;exact⟨h1,h2,a⟩
theorem Cp {K:Nat}(h:aU kc w v cs)(h2:cU (cX kx) w u ks)(aQ:cs.length=ks.length)(bH:Y (∀k∈ks,k.length=n))(cF:n<=300)(c8:ks.length<=1000)
 (bZ:Y (∀(i j:Nat) (cC:i<cs.length) (c5:i<ks.length),∀x∈Z.bR cs[i] ks[i] j (Z.mix (cs.take i) (ks.take i) n),E.Lq x K))(cx:2<=K)(c:K<=1000000)(c6:kc<=1000000)(c7:kx<=1000000):
 aj ae 121 #[v,u,H I (n:Int)] w (tt K (Z.mix cs ks n) w):=by
 have b4:=G h.lq;obtain⟨cP,cY,rfl⟩:=h.form;obtain⟨B,cZ,rfl⟩:=h2.form;have bX:=G h;have bi:=G h2;have bl:=G aQ;clear h h2;rw[aQ];clear aQ;go_enter func121,ntmps121;go_wp2_with fail
 go_loop [9,30] (λ_ a9=> ∃j:Nat,a9=H I (j:Int)/\j<=ks.length) (λ_ a9=>ks.length-(aI a9).toNat)
 case atStart=>exact⟨0,rfl,bn _⟩
 case round=>
  obtain⟨j,rfl,cD⟩:=hrel
  by_cases P:j<ks.length
  .obtain⟨C,o,x,am,hb,an,F⟩:=bi.out.at_ P;subst am;obtain⟨bx,bC,rfl⟩:=F.form;rw[bH.out _ (cq P)]at an;clear F;have dd:(j:Int)<(ks.length:Int):=by omega
   have dc:(0:Int)<=(j:Int):=by omega
   have de:((j:Int)).toNat=j:=by omega
   go_wp2_with fail
   go_round
   case rel=>exact⟨j+1,by go_num,by omega⟩
   case measure=>simp[aI];omega
  .obtain rfl:j=ks.length:=by omega
   go_wp2_with fail;refine(mU cF _).mono ?_;rintro al w1 ⟨b9,rfl,bv,u1⟩;have ax:aL K w w1 b9 (Z.mix [] [] n):=by rw[Z.Cl];exact bv.mono cx
   clear bv;obtain⟨bf,bB,rfl⟩:=ax.form;rw[Z.ir]at ax|-;have bq:=G ax;have bs:=G u1;clear ax u1;go_wp2_with fail
   go_loopw[11,12,13,14,43] (λ_ _ _ _ ba wr=> ∃i:Nat,ba=H I (i:Int)/\i<=ks.length/\aL K w wr (D bf n bB) (Z.mix (cs.take i) (ks.take i) n)/\V w wr) (λ_ _ _ _ ba _=>ks.length-(aI ba).toNat)
   case atStart=>exact⟨0,rfl,bn _,bq.out,bs.out⟩
   case round=>
    obtain⟨i,rfl,cC,b,a⟩:=hrel;clear bq bs
    by_cases P:i<ks.length
    .have ay:i<cs.length:=by have:=bl.out;omega
     obtain⟨bA,bN,df,ck,cB,an,F⟩:=bi.out.at_ P;subst ck;obtain⟨bx,bC,rfl⟩:=F.form;obtain⟨C,o,a8,aE,aY,aM,ai,a1,aN,am,hb,c1,c2,c3,m⟩:=bX.out.sq.at_ (bF kc) ay;subst am;have b0:Y (∀j,∀x∈Z.bR cs[i] ks[i] j (Z.mix (cs.take i) (ks.take i) n),E.Lq x K):=G (λj=>bZ.out i j ay P);have bp:Y (Z.mix (cs.take (i+1)) (ks.take (i+1)) n=Z.bR cs[i] ks[i] n (Z.mix (cs.take i) (ks.take i) n)):=G (Z.Co ay P);have br:Y (ks[i].length=n):=G (bH.out _ (cq P));have b5:=G (b4.out cs[i] (cq ay));have b6:=G (ju F);rw[br.out]at an F;have b3:=G F;generalize cs[i]=x at*;generalize ks[i]=f at*;have m:Fr w (af #[J a8,D aE aY aM,D ai a1 aN]) x kc:=m;have A:Y (∀q,V w q->q.cell? ⟨C,o+i*3,none⟩=U (J a8)/\q.cell? ⟨C,o+i*3+1,none⟩=U (D aE aY aM)/\q.cell? ⟨C,o+i*3+2,none⟩=U (D ai a1 aN)):=G (λq aV=>⟨(aV.cell (p:=⟨C,o+i*3,none⟩) hb).trans c1,(aV.cell (p:=⟨C,o+i*3+1,none⟩) hb).trans c2,(aV.cell (p:=⟨C,o+i*3+2,none⟩) hb).trans c3⟩);have bj:=G m;obtain⟨d1,d2,d3⟩:=A.out wr a;have cu:wr.cell? ⟨bA,bN+i,none⟩=U (D bx n bC):=(a.cell (p:=⟨bA,bN+i,none⟩) cB).trans an;clear c1 c2 c3 an F m;have k1:(i:Int)<(ks.length:Int):=by omega
     have bJ:(0:Int)<=(i:Int):=by omega
     have bK:((i:Int)).toNat=i:=by omega
     have L:=G b;have T:=G a;clear b a;go_wp2_with fail
     ((with_reducible refine(fQ (bj.out.up T.out) (by omega)).mono ?_))
     rintro al w2 ⟨rfl,u2⟩;have b:=L.out.up u2;have a:=T.out.trans u2;clear L T u2 d1 d2 d3 cu
     by_cases ao:x=0
     .have bI:((E.bU x.num:Int)==0)=true:=by rw[pe];exact decide_eq_true ao
      have au:Y (Z.mix (cs.take (i+1)) (ks.take (i+1)) n=Z.mix (cs.take i) (ks.take i) n):=G (by rw[bp.out,ao,Z.Ck]);clear ao;go_wp2_with fail
      go_roundw
      case rel=>exact⟨i+1,by first|rfl|go_num,by omega,by rw[au.out];exact b,a⟩
      case measure=>simp[aI];omega
     .have bI:((E.bU x.num:Int)==0)=false:=by rw[pe];exact decide_eq_false ao
      clear ao;have L:=G b;have T:=G a;clear b a;go_wp2_with fail;have b1:Y ((Z.mix (cs.take i) (ks.take i) n).length=n):=G (Z.ir _ _ _);have au:Y (Z.bR x f 0 (Z.mix (cs.take i) (ks.take i) n)=Z.mix (cs.take i) (ks.take i) n):=G (Z.oS _ _ _);clear k1 bJ bK bI;generalize Z.mix (cs.take i) (ks.take i) n=t at*
      go_loopw[13,14,56] (λ_ _ bb wr=> ∃j:Nat,bb=H I (j:Int)/\j<=n/\aL K w wr (D bf n bB) (Z.bR x f j t)/\V w wr) (λ_ _ bb _=>n-(aI bb).toNat)
      case atStart=>exact⟨0,rfl,bn _,by rw[au.out];exact L.out,T.out⟩
      case round=>
       clear L T;obtain⟨j,rfl,cD,b,a⟩:=hrel
       by_cases cE:j<n
       .have aS:j<f.length:=by have:=br.out;omega
        obtain⟨cW,az,bO,B2,bL,X,bh,bM,bD,am,cA,ct,cv,cw,z⟩:=(b3.out.up (bF kx) a).at_ (bF kx) aS
        subst am;have bG:j<t.length:=by have:=b1.out;omega
        have s:Y (j<(Z.bR x f j t).length):=G (by rw[Z.iZ];exact bG);have bk:Y (t.getD j 0=(Z.bR x f j t)[j]'s.out):=G (Z.Ci _).symm;have bt:Y (f.getD j 0=f[j]):=G (by rw[bz,aT aS];rfl);have R:Y ((Z.bR x f j t).set j ((Z.bR x f j t)[j]'s.out+x*f[j])=Z.bR x f (j+1) t):=G (by rw[<-bk.out,<-bt.out];exact Z.Cj bG);have ag:Y (E.Lq ((Z.bR x f j t)[j]'s.out+x*f[j]) K):=G (b0.out (j+1) _ (by rw[<-R.out];exact List.mem_of_getElem? (i:=j) (by rw[List.getElem?_set_self s.out])));have b7:=G (b6.out f[j] (cq aS));have cQ:Y (j+1<=n):=G cE;clear bk bt au;obtain⟨bd,aF⟩:∃bd,Y ((Z.bR x f j t)[j]'s.out=bd):=⟨_,G rfl⟩;rw[aF.out]at R ag;generalize b2:Z.bR x f j t=cR at*;generalize f[j]=bP at*;have z:Fr wr (af #[J bO,D B2 bL X,D bh bM bD]) bP kx:=z;have m:=bj.out.up a;clear b2;obtain⟨aA,aw⟩:∃aA,Y (x*bP=aA):=⟨_,G rfl⟩;have bu:E.Lq aA (kc+kx):=by rw[<-aw.out];exact b5.out.mul b7.out
        rw[aw.out]at R ag;obtain⟨bQ,aG⟩:∃bQ,Y (bd+aA=bQ):=⟨_,G rfl⟩;rw[aG.out]at R ag;obtain⟨ab,_,_,_,_,_,_,_,cl,c0,c4,_⟩:=b.lx s.out;subst cl;have k1:(j:Int)<(n:Int):=by omega
        have bJ:(0:Int)<=(j:Int):=by omega
        have bK:((j:Int)).toNat=j:=by omega
        have da:(i:Int)<(ks.length:Int):=by omega
        have c9:(0:Int)<=(i:Int):=by omega
        have db:((i:Int)).toNat=i:=by omega
        have cS:=a;go_wp2_with fail;generalize bE:ah wr _=bw at*;obtain⟨cK,d⟩:=aC bE;clear bE;revert a z m b;revert cK;refine dW ?_;intro a z m b
        have ci:=d.c3;clear ct cv cw cA ci;revert d a z m b;refine b8 (V.refl bw).drew ?_;intro d a z m b
        refine aZ ?_;refine a3 (S:=λq=>V w q/\(q.cell? ⟨C,o+i*3,none⟩=U (J a8)/\q.cell? ⟨C,o+i*3+1,none⟩=U (D aE aY aM)/\q.cell? ⟨C,o+i*3+2,none⟩=U (D ai a1 aN))/\q.cell? ⟨wr.heap.size,0,none⟩=U (J bO)/\q.cell? ⟨wr.heap.size,1,none⟩=U (D B2 bL X)/\q.cell? ⟨wr.heap.size,2,none⟩=U (D bh bM bD)) (by kernel_rfl) (by exact⟨a,A.out _ a,d.c3⟩) (λe=> ?_);generalize bw.drew=cV at*;refine aa 0 ?_;refine aa 1 ?_;refine aa 2 ?_;refine aa 3 ?_;refine aa 4 ?_;refine aa 6 ?_;refine aa 7 ?_;refine aa 8 ?_;refine aa 9 ?_;refine aa 10 ?_;refine ak [5,11] ?_;refine av rfl (λg c=> ?_) ?_
        .skip;clear e;obtain⟨_,cN,bT,cG,cm,bV,cI,cn,N,_,_,a5,az,a6,l,_⟩:=b.lx s.out;cases N;rw[aF.out]at l;go_simp;clear a5 az a6;refine c.out _ _ (by exact⟨a,A.out _ a,d.c3⟩) (λe=> ?_);clear c g
         try simp only[bc,bg]
         refine ak [11] ?_;refine av rfl (λg c=> ?_) bm;clear e;go_simp;go_at_call 38;refine(ib m z (by omega) (by omega)).mono ?_;rintro al cc ⟨ca,rfl,r,u2⟩;replace b:=b.up u2;replace d:=d.up u2
         try replace l:=(aR K).kw l u2.kw
         replace a:=a.trans u2;clear u2 z m;rw[aw.out]at r;obtain⟨ce,cg,rfl,r,Q⟩:=r;obtain⟨bR,cL,cy,rfl⟩:=r.shape;obtain⟨bS,cM,cj,rfl⟩:=Q.shape
         try go_wp2_with fail
         refine c.out _ _ (by exact⟨a,A.out _ a,d.c3⟩) (λe=> ?_);clear c g
         try simp only[bc,bg]
         refine ak [12] ?_;refine av rfl (λg c=> ?_) bm;clear e;go_simp;go_at_call 61;refine(gc (Qw.fr l.1 l.2) (Qw.fr ⟨_,_,rfl,r,Q⟩ bu) (by omega) (by omega)).mono ?_;rintro al cd ⟨cb,rfl,y,u3⟩;revert b d a;refine bo u3 ?_;intro b d a
         clear u3 l r Q;rw[aG.out]at y;obtain⟨cf,ch,rfl,y,ar⟩:=y;obtain⟨aB,a2,cz,rfl⟩:=y.shape;obtain⟨aD,a4,aK,rfl⟩:=ar.shape
         try go_wp2_with fail
         refine c.out _ _ (by exact⟨a,A.out _ a,d.c3⟩) (λe=> ?_);clear c g
         try simp only[bc,bg]
         refine aa 13 ?_;obtain⟨_,cO,bU,cH,cp,bW,cJ,cr,N,_,_,c1,c2,c3,_,fr⟩:=b.lx s.out;cases N;have aO:=fr (j*3);have X:=fr (j*3+1);have aP:=fr (j*3+2);clear fr;obtain⟨q1,a7,aq⟩:=b.store a s.out ⟨⟨_,_,rfl,y,ar⟩,ag.out⟩;rw[R.out]at q1;have aH:=G q1;have M:=G aq;have aJ:=G (((d.ck (p:=⟨ab,j*3,none⟩) (by dsimp only;omega) (J (E.aB bQ.num))).ck (p:=⟨ab,j*3+1,none⟩) (by dsimp only;omega) (D aB a2 cz)).ck (p:=⟨ab,j*3+2,none⟩) (by dsimp only;omega) (D aD a4 aK));clear q1 a7 aq;refine ak [14] ?_;refine av rfl (λg c=> ?_) bm;clear e;go_simp;refine c.out _ _ (by exact⟨M.out,A.out _ M.out,aJ.out.c3⟩) (λe=> ?_);clear c g;refine aW (by decide +kernel) (aX ?_) _;clear e c1 c2 c3 aO X aP;go_wp2_with fail
         go_roundw
         case rel=>exact⟨j+1,by first|rfl|go_num,by omega,aH.out,M.out⟩
         case measure=>simp[aI];omega
        refine av rfl (λg c=> ?_) bm;clear e;go_simp;go_at_call 38;refine(ib m z (by omega) (by omega)).mono ?_;rintro al cc ⟨ca,rfl,r,u2⟩;replace b:=b.up u2;replace d:=d.up u2
        try replace l:=(aR K).kw l u2.kw
        replace a:=a.trans u2;clear u2 z m;rw[aw.out]at r;obtain⟨ce,cg,rfl,r,Q⟩:=r;obtain⟨bR,cL,cy,rfl⟩:=r.shape;obtain⟨bS,cM,cj,rfl⟩:=Q.shape
        try go_wp2_with fail
        refine c.out _ _ (by exact⟨a,A.out _ a,d.c3⟩) (λe=> ?_);clear c g
        try simp only[bc,bg]
        refine ak [5] ?_;refine av rfl (λg c=> ?_) bm;clear e;obtain⟨_,cN,bT,cG,cm,bV,cI,cn,N,_,_,a5,az,a6,l,_⟩:=b.lx s.out;cases N;rw[aF.out]at l;go_simp;clear a5 az a6;refine c.out _ _ (by exact⟨a,A.out _ a,d.c3⟩) (λe=> ?_);clear c g
        try simp only[bc,bg]
        refine ak [12] ?_;refine av rfl (λg c=> ?_) bm;clear e;go_simp;go_at_call 61;refine(gc (Qw.fr l.1 l.2) (Qw.fr ⟨_,_,rfl,r,Q⟩ bu) (by omega) (by omega)).mono ?_;rintro al cd ⟨cb,rfl,y,u3⟩;revert b d a;refine bo u3 ?_;intro b d a
        clear u3 l r Q;rw[aG.out]at y;obtain⟨cf,ch,rfl,y,ar⟩:=y;obtain⟨aB,a2,cz,rfl⟩:=y.shape;obtain⟨aD,a4,aK,rfl⟩:=ar.shape
        try go_wp2_with fail
        refine c.out _ _ (by exact⟨a,A.out _ a,d.c3⟩) (λe=> ?_);clear c g
        try simp only[bc,bg]
        refine aa 13 ?_;obtain⟨_,cO,bU,cH,cp,bW,cJ,cr,N,_,_,c1,c2,c3,_,fr⟩:=b.lx s.out;cases N;have aO:=fr (j*3);have X:=fr (j*3+1);have aP:=fr (j*3+2);clear fr;obtain⟨q1,a7,aq⟩:=b.store a s.out ⟨⟨_,_,rfl,y,ar⟩,ag.out⟩;rw[R.out]at q1;have aH:=G q1;have M:=G aq;have aJ:=G (((d.ck (p:=⟨ab,j*3,none⟩) (by dsimp only;omega) (J (E.aB bQ.num))).ck (p:=⟨ab,j*3+1,none⟩) (by dsimp only;omega) (D aB a2 cz)).ck (p:=⟨ab,j*3+2,none⟩) (by dsimp only;omega) (D aD a4 aK));clear q1 a7 aq;refine ak [14] ?_;refine av rfl (λg c=> ?_) bm;clear e;go_simp;refine c.out _ _ (by exact⟨M.out,A.out _ M.out,aJ.out.c3⟩) (λe=> ?_);clear c g;refine aW (by decide +kernel) (aX ?_) _;clear e c1 c2 c3 aO X aP;go_wp2_with fail
        go_roundw
        case rel=>exact⟨j+1,by first|rfl|go_num,by omega,aH.out,M.out⟩
        case measure=>simp[aI];omega
       .obtain rfl:j=n:=by omega
        have k1:¬((j:Int)<(j:Int)):=by omega
        go_wp2_with fail
        go_roundw
        case rel=>exact⟨i+1,by first|rfl|go_num,by omega,by rw[bp.out];exact b,a⟩
        case measure=>simp[aI];omega
    .obtain rfl:i=ks.length:=by omega
     have k1:¬((ks.length:Int)<(ks.length:Int)):=by omega
     have bY:Y (Z.mix (cs.take ks.length) (ks.take ks.length) n=Z.mix cs ks n):=G (by rw[List.take_of_length_le (by have:=bl.out;omega),co]);rw[bY.out]at b;have L:=G b;clear b;go_wp2
     go_ret2
     exact⟨_,rfl,L.out,a⟩
theorem tQ {kc kx:Nat}(p:Nat):∀(cs:List Rat) (f:List (List Rat)),(∀c∈cs,E.Lq c kc)->(∀k∈f,∀x∈k,E.Lq x kx)->E.Lq ((List.zipWith (λa (k:List Rat)=>a*k.getD p 0) cs f).sum) (cs.length*(kc+kx+3)+2)
 |[],f,_,_=>by simpa using kj
 |c::cs,[],_,_=>by simpa using kj.mono (by omega)
 |c::cs,k::f,m,A=>by
  have ih:=tQ p cs f (λc b=>m c (by simp[b])) (λk d=>A k (by simp[d]));rw[List.zipWith_cons_cons,List.sum_cons,List.length_cons,Nat.succ_mul];exact(((m c (by simp)).mul (hH (A k (by simp)) p)).add ih).mono (by omega)
theorem Cq (h1:∀c∈cs,E.Lq c kc)(h2:∀k∈ks,∀x∈k,E.Lq x kx)(q:cs.length<=8)(a:kc<=20)(r:kx<=130):∀(i j:Nat) (b:i<cs.length) (d:i<ks.length),∀x∈Z.bR cs[i] ks[i] j (Z.mix (cs.take i) (ks.take i) n),E.Lq x 2000:=by
 intro i j b d x f;unfold Z.bR at f;obtain⟨p,_,rfl⟩:=List.mem_map.1 f
 have e:E.Lq ((Z.mix (cs.take i) (ks.take i) n).getD p 0) (1226+2):=hH (k:=1226) (λx g=>by
  unfold Z.mix at g;obtain⟨o,_,rfl⟩:=List.mem_map.1 g;refine(tQ o _ _ (λc a=>h1 c (List.mem_of_mem_take a)) (λk m=>h2 k (List.mem_of_mem_take m))).mono ?_;have l:(cs.take i).length<=8:=by simp;omega
  have:=Nat.mul_le_mul l (show kc+kx+3<=153 by omega);omega) p
 split
 .exact(e.add ((h1 _ (cq b)).mul (hH (h2 _ (cq d)) p))).mono (by omega)
 .exact e.mono (by omega)
def m0 (k:Nat)(qs:List Rat)(w0 w:O)(e:aO)(b:O):Prop:= ∃a,e=aw (aY #[a,J true])/\aL k w0 b a qs/\V w b
theorem m0.of {e:aO}(c:V w0 w)(h:∃a,e=aw (aY #[a,J true])/\aL k w ab a qs/\V w ab):m0 k qs w0 w e ab:=by
 obtain⟨a,h1,h2,b⟩:=h;exact⟨a,h1,h2.weaken c,b⟩
theorem tR {x0 x1 x2 x3:W}(q:Bx 110 w gm [x0,x1,x2,x3,x4,x5,x6,x7,x8,x9,pw,px,py,pz,J sh,D HN n3 c3,D HD n4 c4,D YA ny cy,pA,pB,vK,pC,pD])(f:aU kc w vc cs)(g:cU (cX kx) w vK ks)(c:Fr w (af #[J sh,D HN n3 c3,D HD n4 c4]) h0 kh)
 (p:cs.length=ks.length)(s:ny<=300)(K:Y (∀k∈ks,k.length=ny))(E:cs.length<=8)(I:kc<=20)(L:kx<=130)(ai:kh<=1000000):
 aj ae 79 #[az (U ⟨gm,0,none⟩),vc] w (dT (kh+2000) (Z.fh h0 cs ks ny) w):=by
 obtain⟨R,ah,rfl⟩:=f.form;obtain⟨i,B,rfl⟩:=g.form
 have u:=G (Cq (n:=ny) f.lq (λk H Q N=>by
  obtain⟨al,F,rfl⟩:=List.getElem_of_mem H;obtain⟨_,_,au,_,_,_,M⟩:=g.at_ F;exact ju M Q N) E I L)
 have y:Y (Z.fh h0 cs ks ny=Pq.sc h0 (Z.mix cs ks ny)):=G rfl;rw[y.out];have a:=V.refl w;have t:=G f;have x:=G g;have l:=G p;clear p f g;have b:=q;clear q;go_enter func79,ntmps79;go_wp2_with fail;replace c:=c.up a;have d:=b.k 17;have e:=b.k 20;revert a b c d e;refine b8 (V.refl w).drew ?_;intro a b c d e;refine aZ ?_;refine a3 (S:=λj=>V w j/\j.cell? ⟨gm,17,none⟩=U (D YA ny cy)/\j.cell? ⟨gm,20,none⟩=U (D i ks.length B)) (by kernel_rfl) ?_ (λm=> ?_)
 .with_reducible exact⟨a,d,e⟩
 refine aa 0 ?_;refine aa 1 ?_;refine aa 2 ?_;refine aa 3 ?_;refine aa 4 ?_;refine aa 5 ?_;refine aa 6 ?_;refine aa 7 ?_;refine aa 8 ?_;refine aa 9 ?_;refine aa 10 ?_;refine bZ 11 (λi o=> ?_);go_simp
 (first
   |(go_at_call 121
     with_reducible refine(Cp (t.out.up a) (x.out.up (bF kx) a) l.out K s (by have:=l.out;omega) u (by omega) (by omega) (by omega) (by omega)).mono ?_
     rintro C ab ⟨T,rfl,r,u51⟩;revert a b c d e;refine b8 u51 ?_;intro a b c d e
     try(replace r:=r.up u51)
     clear u51))
 try go_wp2_with fail
 try clear m
 refine o.out _ _ ?_ (λm=> ?_)
 .with_reducible exact⟨a,d,e⟩
 clear o i
 try simp only[bc,bg]
 refine aa 12 ?_;refine aa 13 ?_;refine aa 14 ?_;refine aa 15 ?_;refine aa 16 ?_;refine aW (by kernel_rfl) ?_ _;refine aX ?_;have v:=G r.fs;clear r;have ak:(Z.mix cs ks ny).length<=300:=by rw[Z.ir];exact s
 generalize Z.mix cs ks ny=ar at*;have an:=b.k 14;have ao:=b.k 15;have aq:=b.k 16;go_wp2_with fail;have A:=a
 ((with_reducible refine(he c v.out.sq (by omega) (by omega) (by omega)).mono ?_))
 rintro C ag ⟨X,rfl,P,u9⟩;have z:=a.trans u9;go_wp2;go_ret;exact⟨_,rfl,P.weaken A,z⟩
theorem tS {x0 x1 x2 x3:W}{ys:List Rat}(x:Bx 110 w gm [x0,x1,x2,x3,x4,x5,x6,x7,x8,x9,pw,px,py,pz,J sh,D HN n3 c3,D HD n4 c4,D YA ny cy,pA,pB,vK,pC,pD])(p:aU kc w vc cs)(q:cU (cX kx) w vK ks)(o:Fr w (af #[J sh,D HN n3 c3,D HD n4 c4]) h0 kh)(y:aU ky w (D YA ny cy) ys)(ab:ys.length=ny)
 (v:cs.length=ks.length)(X:ny<=300)(R:Y (∀k∈ks,k.length=ny))(N:cs.length<=8)(P:kc<=20)(T:kx<=130)(Q:kh<=1000000)(au:ky<=1000000):
 aj ae 76 #[az (U ⟨gm,0,none⟩),vc] w (dT (ky+(kh+2000)+1) (Z.from_ ys h0 cs ks) w):=by
 obtain⟨ai,ao,rfl⟩:=p.form;obtain⟨m,aq,rfl⟩:=q.form;subst ab;have n:Y ((Z.fh h0 cs ks ys.length).length=ys.length):=G (by unfold Z.fh;rw[List.length_map,Z.ir]);have E:Y (Z.from_ ys h0 cs ks=Pq.zt ys (Z.fh h0 cs ks ys.length) ys.length):=G (tu n.out).symm;rw[E.out];have a:=V.refl w;have B:=G p;have K:=G q;have L:=G y;have H:=G o;have I:=G v;clear p q y o v;have b:=x;clear x;go_enter func76,ntmps76;go_wp2_with fail;have e:=b.k 17;revert a b e;refine bo (V.refl w).drew ?_;intro a b e;refine aZ ?_;refine a3 (S:=λz=>V w z/\Cz z gm 17 [D YA ys.length cy]) (by kernel_rfl) (by exact⟨a,b.cy 17 1⟩) (λf=> ?_);generalize w.drew=l at*;refine aa 0 ?_;refine aa 1 ?_;refine aa 2 ?_;refine aa 3 ?_;refine aa 4 ?_;refine aa 5 ?_
 repeat' first
  |refine aa 9 ?_
  |refine aa 10 ?_
  |refine aa 11 ?_
  |refine aa 12 ?_
  |refine aa 13 ?_
  |refine ak [6] ?_
  |refine ak [7] ?_
  |refine ak [8] ?_
  |refine av (i:=6) rfl (λm A=> ?_) ?_
  |refine av (i:=7) rfl (λm C=> ?_) ?_
  |refine av (i:=8) rfl (λm F=> ?_) ?_
  |exact bm
  |(have d:=A;clear A
    (try clear f)
    go_simp;go_at_call 79
    with_reducible refine(tR b (B.out.up a) (K.out.up (bF kx) a) (H.out.up a) I.out X R N P T Q).mono ?_
    rintro M l ⟨al,rfl,g,c⟩
    try(replace r:=r.up c)
    revert a b e;refine bo c ?_;intro a b e
    try(replace j:=j.up c)
    clear c;obtain⟨ag,c2,rfl⟩:=g.form;rw[n.out]at g;rw[n.out]
    try go_wp2_with fail
    refine ax d (by exact⟨a,b.cy 17 1⟩) (λf=> ?_);clear d m)
  |(have d:=C;clear C
    (try clear f)
    go_simp;have aw:=b.lt;have ay:=a.size;generalize u:l.heap.size=ar at*;generalize t:ah l _=l at*;obtain⟨s,j⟩:=b3 t u;clear t u
    try(replace g:=g.up s)
    try(replace r:=r.up s)
    revert a b e;revert s;refine bX ?_;intro a b e
    refine ax d (by exact⟨a,b.cy 17 1⟩) (λf=> ?_);clear d m)
  |(have d:=F;clear F
    (try clear f)
    go_simp;go_at_call 118
    with_reducible refine((mR j (L.out.up a).sq g.fr n.out (by omega) (by omega) (by omega)).mono λ_ _ o=>m0.of a o).mono ?_
    rintro M l ⟨an,rfl,r,c⟩
    try(replace g:=g.up c)
    revert a b e;refine bo c ?_;intro a b e
    try(replace j:=j.up c)
    clear c
    try go_wp2_with fail
    refine ax d (by exact⟨a,b.cy 17 1⟩) (λf=> ?_);clear d m)
  |refine aW (by decide +kernel) (aX ?_) _
  |fail
 all_goals try clear f
 all_goals have aA:=j.c2
 all_goals
  go_wp2;go_ret;exact⟨_,rfl,r,a⟩
def tT (g:Nat)(L a:Int)(f:bv)(n:Nat)(w:O)(e:aO)(c:O):Prop:= ∃b pk:Int,e=aw (cJ f)/\Bx 154 c g [H I b,H I pk,H I L]/\(0<=b/\b<=a+n)/\Gb g w c
theorem aF.hg (h:aF k w v qs):Sq (Sz k) w v (qs.map Z.bits):=(aA.sq h).map _ λv q b a=>Qw.sz a.1 a.2
theorem tU {L:Int}:∀{l:List Nat},Ga.bad L l=l.length-> ∀n∈l,(n:Int)<=L
 |[],_,n,f=>by simp at f
 |a::l,m,n,f=>by
  unfold Ga.bad at m
  split at m
  .rename_i ha
   rcases List.mem_cons.1 f with rfl|f
   .exact ha
   .exact tU (l:=l) (by simpa using m) n f
  .simp at m
theorem kC (h:Z.fits L l s=Z.aG)(a:L<=4096):∀q∈l,E.Lq q 130:=by
 intro q b;unfold Z.fits at h
 split at h
 .rename_i hb
  rw[<-List.length_map (f:=Z.bits)]at hb;exact tC (tU hb _ (List.mem_map.2 ⟨q,b,rfl⟩)) a
 .exact absurd (congrArg Prod.fst h) (show(6:Int)≠0 by decide)
theorem kD :Z.fits L l s=Z.aG\/(Z.fits L l s).1=6:=by
 unfold Z.fits
 split
 .exact .inl rfl
 .exact .inr rfl
theorem pE (h:aF k w v qs)(hb:Bx 154 w g vs):v.ownBlock≠U g:=eu h hb (by decide)
theorem Gb.set {p:am}(h:Gb g w ab)(d:w.heap.size<=p.block)(b:Kw ab (ab.setCell p u)):Gb g w (ab.setCell p u):=by
 refine⟨⟨h.1.os,h.1.tape,h.1.output,by simpa[ag]using h.1.size,λj a c=> ?_⟩,h.2.trans b⟩;exact(Below.heap_setCell _ _ _ _ (by omega)).trans (h.1.block j a c)
theorem pF (h:Gb g w ab)(hb:Bx T ab r [H I x0,H I x1,H I x2,H I x3])(f:w.heap.size<=r):
 Gb g w ((((ab.setCell ⟨r,0,none⟩ (H I a)).setCell ⟨r,1,none⟩ (H I b)).setCell ⟨r,2,none⟩ (H I c)).setCell ⟨r,3,none⟩ (H I d))/\
 Bx T ((((ab.setCell ⟨r,0,none⟩ (H I a)).setCell ⟨r,1,none⟩ (H I b)).setCell ⟨r,2,none⟩ (H I c)).setCell ⟨r,3,none⟩ (H I d)) r [H I a,H I b,H I c,H I d]/\
 ∀{S:an} {i:Nat} {vs:List W},i≠r->Bx S ab i vs->Bx S ((((ab.setCell ⟨r,0,none⟩ (H I a)).setCell ⟨r,1,none⟩ (H I b)).setCell ⟨r,2,none⟩ (H I c)).setCell ⟨r,3,none⟩ (H I d)) i vs:=by
 have j:=hb.set 0 (H I a);have k:=j.set 1 (H I b);have l:=k.set 2 (H I c);have m:=l.set 3 (H I d);refine⟨?_,m,λe n=>(((n.ck (p:=⟨r,0,none⟩) e _).ck (p:=⟨r,1,none⟩) e _).ck (p:=⟨r,2,none⟩) e _).ck (p:=⟨r,3,none⟩) e _⟩;exact(((h.set (p:=⟨r,0,none⟩) f (Kw.store (c:=H I x0) hb rfl trivial _)).set (p:=⟨r,1,none⟩) f (Kw.store (c:=H I x1) j rfl trivial _)).set (p:=⟨r,2,none⟩) f (Kw.store (c:=H I x2) k rfl trivial _)).set (p:=⟨r,3,none⟩) f (Kw.store (c:=H I x3) l rfl trivial _)
theorem m6 {cs:List W}{i:Int}(u:Bx 110 w gm cs)(R:cs[18]? =U (az (U ⟨gg,0,none⟩)))(hb:Bx 154 w gg [H I a,H I b,H I L])(h:aF k w v qs)(S:k<=1000000)(au:qs.length<=1000)(ha:0<=a/\a<=1000000):
 aj ae 77 #[az (U ⟨gm,0,none⟩),v,H I i] w (tT gg L a (Z.fits L qs i) qs.length w):=by
 have T:=pE h hb;obtain⟨ai,c,rfl⟩:=h.form;have N:=G h.hg;have j:Y ((qs.map Z.bits).length=qs.length):=G (by simp);have f:Y (Z.fits L qs i=if Ga.bad L (qs.map Z.bits)=qs.length then Z.aG else(6,0,i,300+(Ga.bad L (qs.map Z.bits):Nat))):=G rfl;have q:=G (Ga.sW L (qs.map Z.bits));obtain⟨m,K⟩:∃m,Y (Z.fits L qs i=m):=⟨_,G rfl⟩;rw[K.out]at f|-;have J:=u.cell R;generalize qs.map Z.bits=aa at*;rw[j.out]at q;obtain⟨B,p⟩:∃B,Y (Ga.bad L aa=B):=⟨_,G rfl⟩;have Q:V w (w.alloc (ao #[H I 0,H I 0,H I 0,H I 0] 63)):=(V.refl w).alloc _;have al:=G u;have M:=G hb.lt;clear u h;have X:=λP=>cx (o:=P) J
 go_enter func77,ntmps77;go_wp2_with fail;generalize E:ah w _=am at*;obtain⟨l,g⟩:=aC E;clear E;replace hb:=hb.up l;have ab:=g.c4;have af:=g.free;have D:=l
 ((with_reducible refine(o4 hb (N.out.up (hE k) l) T S (by have:=j.out;omega) (by omega)).mono ?_))
 rintro aq an ⟨rfl,F,n⟩;have x:gg≠w.heap.size:=by have:=M.out;omega
 have t:=G (n.bx g x.symm);have C:=G ((Gb.up D).trans n);have s:=G F;have g:=t.out;clear Q D l hb F n J X;have ab:=g.c4;have af:=g.free;rw[p.out,j.out]at s;rw[p.out,j.out];rw[p.out]at f q
 by_cases e:B=qs.length
 .have r:Y (m=Z.aG):=G (by rw[f.out,if_pos e]);have y:decide (B=qs.length)=true:=decide_eq_true e;have ak:=G e;clear e f;generalize decide (B=qs.length)=ag at*;subst y;go_wp2_with fail;obtain⟨q1,z,A⟩:=pF (a:=0) (b:=0) (c:=0) (d:=0) C.out t.out (a8 _);exact a4 (cl rfl rfl bM bN z rfl) rfl ⟨_,_,by rw[r.out];rfl,A x s.out,by omega,q1⟩
 .have r:Y (m=(6,0,i,300+(B:Int))):=G (by rw[f.out,if_neg e]);have y:decide (B=qs.length)=false:=decide_eq_false e;have ar:=q.out;have av:wrap64 (300+(B:Int))=300+(B:Int):=by unfold wrap64;omega
  clear f e;generalize decide (B=qs.length)=ag at*;subst y;go_wp2_with fail;obtain⟨q1,z,A⟩:=pF (a:=6) (b:=0) (c:=i) (d:=300+(B:Int)) C.out t.out (a8 _);exact a4 (cl rfl rfl bM bN z rfl) rfl ⟨_,_,by rw[r.out];rfl,A x s.out,by omega,q1⟩
def it (k:Nat)(w:O)(x:List W)(r:List Rat):Prop:= ∃a,x=[a]/\aF k w a r
theorem i5 (k:Nat):Kn 1 44 (it k) where
 kw:=λ⟨d,a,b⟩ f=>⟨d,a,f.own (aR k) (by decide) b⟩
 ok:=λ⟨d,a,b⟩=>by
  obtain⟨g,i,e⟩:=b.form;subst a e;exact⟨rfl,λj c=>by simp at c;subst c;exact⟨trivial,rfl⟩⟩
def bk (k:Nat)(w0 w:O)(v:W)(a:List (List Rat)):Prop:=aP (it k) 1 44 w0.heap.size w v a
theorem bk.up {k:Nat}{w0 w ab:O}{v:W}{ls:List (List Rat)}(h:bk k w0 w v ls)(a:V w ab):bk k w0 ab v ls:=aP.up (i5 k) h a
instance bk.bW {k:Nat} {w0 w ab:O} {v:W} {ls:List (List Rat)}:Lu (V w ab) (bk k w0 w v ls) (bk k w0 ab v ls):=bu λu h=>h.up u
theorem bk.nil (k:Nat)(w0 w:O):bk k w0 w (D none 0 0) []:=aP.nil _ _ _ _ _
theorem bk.form {k:Nat}{w0 w:O}{v:W}{ls:List (List Rat)}(h:bk k w0 w v ls):∃a c,v=D a ls.length c:=aP.form h
theorem m7:∀{xs:List (List W)},(∀x∈xs,cQ 1 x)-> ∀{i:Nat} {u:W},xs.flatten[i]? =U u->xs[i]? =U [u]
 |[],_,i,u,f=>by simp at f
 |x::xs,f,i,u,m=>by
  obtain⟨a,rfl⟩:∃a,x=[a]:=List.length_eq_one_iff.1 (f x (by simp)).1;cases i with
  |zero=>simpa using m
  |succ i=>exact m7 (xs:=xs) (λc b=>f c (by simp[b])) (i:=i) (u:=u) (by simpa using m)
theorem bk.jD (h:bk k w0 w v ls):cU (cX k) w v ls:=by
 obtain⟨j,c,g,h1,h2,m,a,n⟩:=aP.sn h
 have f:∀x∈g,cQ 1 x:=λx p=>by
  obtain⟨i,d⟩:=List.getElem?_of_mem p;have b:i<ls.length:=by rw[<-a.1];exact(List.getElem?_eq_some_iff.1 d).1
  exact(i5 k).ok (a.2 i x _ d (aT b))
 refine⟨j,c,g.flatten,h1,h2,m,by rw[eL f,a.1,Nat.mul_one],n,λi u l o b=> ?_⟩;obtain⟨q,e,h⟩:=a.2 i _ l (m7 f o) b;cases e;exact h.fs
theorem hJ:(Tryz.prog.info? 44).map (λi=>(i.zero,i.size,i.bytes))=U (U (D none 0 0),1,24):=by kernel_rfl
theorem Gb.rws (h:Gb g w ab)(d:bk k w0 w v ls)(hb:Bx 154 w g vs):bk k w0 ab v ls:=by
 obtain⟨f,ha,b⟩:=d;have c:Ap 154 w ab:=⟨h.2,.inr ⟨g,vs,hb,h.1⟩⟩;refine⟨f,ha.imp λx q ⟨u,e,a⟩=>⟨u,e,c.own (aR k) (by decide) a⟩,b.kept h.1 ?_⟩;rcases b.2 with⟨rfl,_⟩|⟨bI,ys,rfl,_,a,_⟩
 .exact .inl rfl
 .refine .inr λe=> ?_
  cases e;unfold Bx at hb a;rw[hb]at a;injection a with a
  injection a with _ a
  exact absurd a (by decide)
theorem aF.re (h:aF j w v qs)(a:∀q∈qs,E.Lq q k):aF k w v qs:=by
 obtain⟨c,ha,b⟩:=h;exact⟨c,⟨ha.1,λj x q h1 h2=>⟨(ha.2 j x q h1 h2).1,a q (List.mem_of_getElem? h2)⟩⟩,b⟩
theorem bk.stored {k:Nat}{w0 w:O}{v x:W}{ls:List (List Rat)}{S:an}{g i:Nat}{vs:List W}(h:bk k w0 w v ls)(hb:Bx S w g vs)(b:53≠S/\44≠S)(f:Kw w (w.setCell ⟨g,i,none⟩ x)):bk k w0 (w.setCell ⟨g,i,none⟩ x) v ls:=by
 obtain⟨l,ha,c⟩:=h;refine⟨l,ha.imp λx q ⟨u,e,a⟩=>⟨u,e,a.stored hb b.1 f⟩,c.kept (row:=U g) ⟨rfl,rfl,rfl,by simp[ag],λj m d=>Below.heap_setCell _ _ _ _ (by simp;exact λe=>d (by rw[e]))⟩ ?_⟩;rcases c.2 with⟨rfl,_⟩|⟨bI,ys,rfl,_,a,_⟩
 .exact .inl rfl
 .refine .inr λe=> ?_
  cases e;unfold Bx at hb a;rw[hb]at a;injection a with a
  injection a with _ a
  exact b.2 a.symm
theorem bk.ne (h:bk k w0 w v ls):v.ownBlock≠U w.heap.size:=λe=>by have:=(aP.lt h _ e).2;omega
theorem bk.grow {row:Option Nat}(h:bk k w0 w v ls)(ha:Ap 44 w ab)(a:w.grownBy ab row)(b:v.ownBlock=none\/v.ownBlock≠row):bk k w0 ab v ls:=by
 obtain⟨f,e,d⟩:=h;exact⟨f,e.imp λx q c=>(i5 k).kw c ha,d.kept a b⟩
theorem bk.lt {k:Nat}{w0 w:O}{v:W}{ls:List (List Rat)}(h:bk k w0 w v ls):∀j,v.ownBlock=U j->w0.heap.size<=j/\j<w.heap.size:=aP.lt h
def gj (v u:W):Prop:=v.ownBlock=none\/v.ownBlock≠u.ownBlock
theorem gj.symm {v u:W}(h:gj v u):gj u v:=by
 rcases h with h|h
 .by_cases a:u.ownBlock=none
  .exact .inl a
  .exact .inr λe=>a (e.trans h)
 .by_cases a:u.ownBlock=none
  .exact .inl a
  .exact .inr λe=>h e.symm
theorem gj.grown {ep:W}(h:gj v u)(b:bk k w0 w u ls)(hw:w.heap.size<=w1.heap.size)(a:ep.ownBlock=v.ownBlock\/ ∃g,ep.ownBlock=U g/\w1.heap.size<=g):gj ep u:=by
 rcases a with a|⟨g,a,c⟩
 .unfold gj;rw[a];exact h
 .refine .inr λe=> ?_
  have:=(b.lt g (by rw[<-e,a])).2;omega
theorem hK:cQ 1 (D none 0 0).cells.toList:=⟨rfl,λb a=>by
 simp[Value.cells]at a;subst a;exact⟨trivial,rfl⟩⟩
theorem tV (h:V w ab)(hb:Bx T ab r [H I x0,H I x1,H I x2,H I x3])(f:w.heap.size<=r):
 V w ((((ab.setCell ⟨r,0,none⟩ (H I a)).setCell ⟨r,1,none⟩ (H I b)).setCell ⟨r,2,none⟩ (H I c)).setCell ⟨r,3,none⟩ (H I d))/\
 Bx T ((((ab.setCell ⟨r,0,none⟩ (H I a)).setCell ⟨r,1,none⟩ (H I b)).setCell ⟨r,2,none⟩ (H I c)).setCell ⟨r,3,none⟩ (H I d)) r [H I a,H I b,H I c,H I d]/\
 Kw ab ((((ab.setCell ⟨r,0,none⟩ (H I a)).setCell ⟨r,1,none⟩ (H I b)).setCell ⟨r,2,none⟩ (H I c)).setCell ⟨r,3,none⟩ (H I d))/\
 (∀{S:an} {m:Nat} {vs:List W},m≠r->Bx S ab m vs->Bx S ((((ab.setCell ⟨r,0,none⟩ (H I a)).setCell ⟨r,1,none⟩ (H I b)).setCell ⟨r,2,none⟩ (H I c)).setCell ⟨r,3,none⟩ (H I d)) m vs)/\
 ∀{k:Nat} {v:W} {s:List (List Rat)},(53≠T/\44≠T)->bk k w ab v s->bk k w ((((ab.setCell ⟨r,0,none⟩ (H I a)).setCell ⟨r,1,none⟩ (H I b)).setCell ⟨r,2,none⟩ (H I c)).setCell ⟨r,3,none⟩ (H I d)) v s:=by
 have g:=hb.set 0 (H I a);have j:=g.set 1 (H I b);have l:=j.set 2 (H I c);have t:=l.set 3 (H I d);have k1:=Kw.store (c:=H I x0) (x:=H I a) (i:=0) hb rfl trivial;have k2:=Kw.store (c:=H I x1) (x:=H I b) (i:=1) g rfl trivial;have o:=Kw.store (c:=H I x2) (x:=H I c) (i:=2) j rfl trivial;have q:=Kw.store (c:=H I x3) (x:=H I d) (i:=3) l rfl trivial;exact⟨(((h.setCell (p:=⟨r,0,none⟩) f _).setCell (p:=⟨r,1,none⟩) f _).setCell (p:=⟨r,2,none⟩) f _).setCell (p:=⟨r,3,none⟩) f _,t,((k1.trans k2).trans o).trans q,λe n=>(((n.ck (p:=⟨r,0,none⟩) e _).ck (p:=⟨r,1,none⟩) e _).ck (p:=⟨r,2,none⟩) e _).ck (p:=⟨r,3,none⟩) e _,λe n=>(((n.stored hb e k1).stored g e k2).stored j e o).stored l e q⟩
def Sh (w:O)(g:Nat):Prop:= ∃a b c d:Int,Bx 63 w g [H I a,H I b,H I c,H I d]
def Kt (w d:O):Prop:=(∀(a:an) (b:Nat) (c:List W),(a≠110/\a≠154/\a≠44/\a≠63)->Bx a w b c->Bx a d b c)/\ ∀b,Sh w b->Sh d b
theorem Kt.up {w w1 ab:O}(h:Kt w w1)(e:V w1 ab):Kt w ab:=⟨λS g vs f hb=>(h.1 S g vs f hb).up e,λg i=>by
 obtain⟨a,b,c,d,hb⟩:=h.2 g i;exact⟨a,b,c,d,hb.up e⟩⟩
instance Kt.bW {w w1 ab:O}:Lu (V w1 ab) (Kt w w1) (Kt w ab):=bu λu h=>h.up u
theorem Kt.refl (w:O):Kt w w:=⟨λ_ _ _ _ h=>h,λ_ h=>h⟩
theorem Kt.trans (h:Kt w w1)(k:Kt w1 ab):Kt w ab:=⟨λS g vs a hb=>k.1 S g vs a (h.1 S g vs a hb),λg b=>k.2 g (h.2 g b)⟩
theorem hL (h:Bx T w g vs)(a:Bx S w g us):T=S:=by
 unfold Bx at h a;rw[h]at a;injection a with a
 injection a with _ a
theorem kE {α:Type}{P:O->List W->α->Prop}{base:Nat}{qs:List α}(h:aP P n S base w v qs)(hb:Bx T w g vs)(b:S≠T):v.ownBlock=none\/v.ownBlock≠U g:=by
 obtain⟨f,_,c⟩:=h;rcases c.2 with⟨rfl,_⟩|⟨e,i,rfl,_,d,_⟩
 .exact .inl rfl
 .refine .inr λa=> ?_
  cases a;exact b (hL d hb)
theorem bk.bs {k:Nat}{T:an}{g:Nat}{w0 w ab:O}{v:W}{ls:List (List Rat)}{old new:List W}(h:bk k w0 w v ls)(b:Bs T g w ab old new)(a:53≠T/\44≠T:=by decide):bk k w0 ab v ls:=by
 have c:=kE h b.old a.2;obtain⟨i,ha,d⟩:=h;exact⟨i,ha.imp λx q ⟨u,e,f⟩=>⟨u,e,f.bs b a.1⟩,d.kept b.gr c⟩
theorem Kt.gb (h:Kt w w1)(hb:Bx 154 w1 gg vs)(j:Gb gg w1 ab):Kt w ab:=by
 refine⟨λS g us i f=>j.bx (h.1 S g us i f) λe=> ?_,λg f=> ?_⟩
 .subst e;exact i.2.1 (hL (h.1 S _ us i f) hb)
 .obtain⟨a,b,c,d,k⟩:=h.2 g f;refine⟨a,b,c,d,j.bx k λe=> ?_⟩;subst e;exact absurd (hL k hb) (by decide)
theorem Kt.ap (h:Kt w w1)(ha:Ap 44 w1 ab):Kt w ab:=by
 refine⟨λS g us f e=>ha.bx f.2.2.1 (h.1 S g us f e),λg e=> ?_⟩;obtain⟨a,b,c,d,i⟩:=h.2 g e;exact⟨a,b,c,d,ha.bx (by decide) i⟩
theorem Kt.nJ {x:W}(h:Kt w w1)(hb:Bx 110 w1 gm vs):Kt w (w1.setCell ⟨gm,i,none⟩ x):=by
 refine⟨λS g us j f=>(h.1 S g us j f).ck (p:=⟨gm,i,none⟩) (λe=> ?_) x,λg f=> ?_⟩
 .simp only at e;subst e;exact j.1 (hL (h.1 S _ us j f) hb)
 .obtain⟨a,b,c,d,k⟩:=h.2 g f;refine⟨a,b,c,d,k.ck (p:=⟨gm,i,none⟩) (λe=> ?_) x⟩;simp only at e;subst e;exact absurd (hL k hb) (by decide)
theorem Kt.jG {n:Int}(h:Kt w w1)(hb:Bx 63 w1 r vs):Kt w (w1.setCell ⟨r,i,none⟩ (H I n)):=by
 refine⟨λS g us l k=>(h.1 S g us l k).ck (p:=⟨r,i,none⟩) (λe=> ?_) _,λg k=> ?_⟩
 .simp only at e;subst e;exact l.2.2.2 (hL (h.1 S _ us l k) hb)
 .obtain⟨a,b,c,d,m⟩:=h.2 g k
  by_cases e:g=r
  .subst e;have f:=m.set i (H I n)
   match i with
   |0=>exact⟨n,b,c,d,f⟩
   |1=>exact⟨a,n,c,d,f⟩
   |2=>exact⟨a,b,n,d,f⟩
   |3=>exact⟨a,b,c,n,f⟩
   |j+4=>exact⟨a,b,c,d,f⟩
  .exact⟨a,b,c,d,m.ck (p:=⟨r,i,none⟩) e _⟩
theorem Kt.stored {n:Int}(h:Kt w w1)(hb:Bx S w1 r vs)(a:S=63)(b:Kw w1 (w1.setCell ⟨r,i,none⟩ (H I n))):Kt w (w1.setCell ⟨r,i,none⟩ (H I n)):=by
 subst a;exact h.jG hb
theorem Kt.bs {old:List W}(h:Kt w w1)(B:Bs T g w1 ab old [H I a,H I b,H I c,H I d])(j:T=63:=by rfl):Kt w ab:=by
 subst j;refine⟨λS bI us i f=>B.ck (λe=> ?_) (h.1 S bI us i f),λbI f=> ?_⟩
 .subst e;exact i.2.2.2 (hL (h.1 S _ us i f) B.old)
 .by_cases e:bI=g
  .subst e;exact⟨a,b,c,d,B.new⟩
  .obtain⟨l,m,n,o,k⟩:=h.2 bI f;exact⟨l,m,n,o,B.ck e k⟩
theorem Kt.wB (h:Kt w w1)(hb:Bx 63 w1 r [H I x0,H I x1,H I x2,H I x3]):Kt w ((((w1.setCell ⟨r,0,none⟩ (H I a)).setCell ⟨r,1,none⟩ (H I b)).setCell ⟨r,2,none⟩ (H I c)).setCell ⟨r,3,none⟩ (H I d)):=by
 have e:=hb.set 0 (H I a);have f:=e.set 1 (H I b);have g:=f.set 2 (H I c);exact(((h.jG hb).jG e).jG f).jG g
namespace Z
def fD (P:Pr)(t h:Rat)(y:List Rat)(c:Rat)(a:List Rat)(b:List (List Rat)):bv×List Rat×List Rat:=
 let d:=from_ y h a b
 let e:=fits P.L d b.length
 if e=aG then
  let r:=field P.L P.code P.os (t+h*c) d P.p
  if r.1=aG then(aG,d,r.2)else((r.1.1,r.1.2.1,b.length,r.1.2.2.2),[],[])
 else(e,[],[])
theorem m8 (L:Int)(code:List ba)(os:List Int)(t:Rat)(y p:List Rat):(field L code os t y p).1=aG\/((field L code os t y p).1.1=3\/(field L code os t y p).1.1=6):=by
 unfold field;simp only
 split
 .exact .inl rfl
 .exact pm L t y p code []
theorem Cr {code:List ba}{os:List Int}{p:List Rat}(h:(field L code os t y p).1=aG):(field L code os t y p).2.length=os.length:=by
 unfold field at h|-;simp only at h|-
 split
 .simp[outs]
 .rename_i a
  rw[if_neg a]at h;exact absurd h a
theorem tW (P:Pr)(t h:Rat)(y:List Rat)(c:Rat)(a:List Rat)(l:List (Rat×List Rat))(ys b:List (List Rat)):eW P t h y ((c,a)::l) ys b=if(fD P t h y c a b).1=aG then eW P t h y l (ys++[(fD P t h y c a b).2.1]) (b++[(fD P t h y c a b).2.2])else((fD P t h y c a b).1,[],[]):=by
 rw[eW];unfold fD;simp only
 by_cases d:fits P.L (from_ y h a b) b.length=aG
 .rw[if_pos d,if_pos d]
  by_cases e:(field P.L P.code P.os (t+h*c) (from_ y h a b) P.p).1=aG
  .rw[if_pos e,if_pos e,if_pos rfl]
  .rw[if_neg e,if_neg e,if_neg];intro g;rcases m8 P.L P.code P.os (t+h*c) (from_ y h a b) P.p with f|f
   .exact e f
   .have:=congrArg Prod.fst g;have i:(field P.L P.code P.os (t+h*c) (from_ y h a b) P.p).1.1=0:=this;omega
 .rw[if_neg d,if_neg d,if_neg d]
end Z
def fE (w0 w:O)(e gg:Nat)(x:List W)(L a:Int)(ys f:List (List Rat))(vN vE:W):Prop:=
 ∃(d c:W) (b pk:Int),(0<=b/\b<=a)/\Bx 110 w e (x++[d,c,vN,vE])/\Bx 154 w gg [H I b,H I pk,H I L]/\bk 130 w0 w d ys/\bk 130 w0 w c f/\gj d c/\V w0 w/\w0.heap.size<=e/\w0.heap.size<=gg
def iu (w0 w:O)(c gg:Nat)(x:List W)(L a:Int)(ys d:List (List Rat))(vN vE:W)(z:bv×List Rat×List Rat)(e:aO)(b:O):Prop:=
 e=aw (cJ z.1)/\V w0 b/\Kt w b/\(z.1=Z.aG->fE w0 b c gg x L a (ys++[z.2.1]) (d++[z.2.2]) vN vE)
theorem iu.bad {z:bv×List Rat×List Rat}{f:bv}(h:z=(f,[],[]))(b:f≠Z.aG)(d:V w0 ab)(c:Kt w ab):iu w0 w gm gg x L a ys ks vN vE z (aw (cJ f)) ab:=by
 subst h;exact⟨rfl,d,c,λe=>absurd e b⟩
theorem iu.bV {z:bv×List Rat×List Rat}{k:List Rat}(h:z=(Z.aG,y,k))(d:V w0 ab)(b:Kt w ab)(c:fE w0 ab gm gg x L a (ys++[y]) (ks++[k]) vN vE):iu w0 w gm gg x L a ys ks vN vE z (aw (cJ Z.aG)) ab:=by
 subst h;exact⟨rfl,d,b,λ_=>c⟩
theorem Cs (w:O)(p:am)(u:W):(w.setCell p u).heap.size=w.heap.size:=by simp[ag]
theorem Ct {q:Pb}{TA TB SC SA SB SE PA:Option am}{aH cB cc ca cb ce cp:Nat}(h:c7 kp w [D TA q.code.length aH,D TB q.os.length cB,H I q.ar,H I q.par,al q.nm,D SC q.c.length cc,D SA q.a.length ca,D SB q.b.length cb,D SE q.e.length ce,D PA q.p.length cp,H I q.bits] q):
 aj ae 116 #[af #[D TA q.code.length aH,D TB q.os.length cB,H I q.ar,H I q.par,al q.nm,D SC q.c.length cc,D SA q.a.length ca,D SB q.b.length cb,D SE q.e.length ce,D PA q.p.length cp,H I q.bits],af #[J s1,D A1 n1 c1,D D1 m1 d1],D j0 ny cy] w λe a=>e=aw (af #[J s1,D A1 n1 c1,D D1 m1 d1,D j0 ny cy,D PA q.p.length cp])/\V w a:=Ch h
theorem cL {bI:Nat}(h:Bx T w g vs)(a:Bx S w bI us)(b:T≠S):g≠bI:=by
 rintro rfl;unfold Bx at h a;rw[h]at a;injection a with a
 injection a with _ a
 exact b a
theorem Cu {q:Pb}{kt:Nat}{y0:List Rat}
 (dT:c7 kp w0 x q)(bR:Y (eD q))(e9:Y (q.right=true))(dU:Fr w0 (af #[J s1,D A1 n1 c1,D D1 m1 d1]) t kt)(bb:Fr w0 (af #[J s2,D A2 n2 c2,D D2 m2 d2]) h0 kh)(dW:aU ky w0 (D YA y0.length cy) y0)(dX:Y ((y0.length:Int)=q.ar))
 (e7:fE w0 w gm gg (x++[J s1,D A1 n1 c1,D D1 m1 d1,J s2,D A2 n2 c2,D D2 m2 d2,D YA y0.length cy,az (U ⟨gg,0,none⟩)]) (Ga.a5 q.bits) a ys ks vN vE)(fL:i<q.b.length)(b8:Y (ks.length=i))(fb:Y (ys.length=i))(e5:Y (∀k∈ks,k.length=y0.length))(ha:a<=100000)(fQ:kt<=100000)(fN:kh<=90000)(fR:ky<=1000)(fP:kp<=1000):
 aj ae 75 #[az (U ⟨gm,0,none⟩),H I (i:Int)] w (iu w0 w gm gg (x++[J s1,D A1 n1 c1,D D1 m1 d1,J s2,D A2 n2 c2,D D2 m2 d2,D YA y0.length cy,az (U ⟨gg,0,none⟩)]) (Ga.a5 q.bits) (a+6) ys ks vN vE (Z.fD q.pr t h0 y0 ((aN q.c).getD i 0) ((q.a.map aN).getD i []) ks)):=by
 have dk:=G dT;obtain⟨cw,cD,cz,cE,cu,cG,eG,cF,ct,cb,cv,cH,cr,cI,rfl,dL,dH,dK,dI⟩:=dT;have ex:=G dL;have et:=G dH;have dt:=G dK;have eu:=G dI;have du:=G dU;have ce:=G bb;have eC:=G dW;clear dL dH dK dI dU bb dW;obtain⟨gv,gu,fw,pk,e0,dG,cN,cP,cO,dF,cA,cS,dQ⟩:=e7;obtain⟨bJ,bO,rfl⟩:=cP.form;obtain⟨br,bs,rfl⟩:=cO.form;have g:Bx 110 w gm [D cw q.code.length cD,D cz q.os.length cE,H I q.ar,H I q.par,al q.nm,D cu q.c.length cG,D eG q.a.length cF,D ct q.b.length cb,D cv q.e.length cH,D cr q.p.length cI,H I q.bits,J s1,D A1 n1 c1,D D1 m1 d1,J s2,D A2 n2 c2,D D2 m2 d2,D YA y0.length cy,az (U ⟨gg,0,none⟩),D bJ ys.length bO,D br ks.length bs,vN,vE]:=dG;have cU:gm≠gg:=cL g cN (by decide);clear dG;have bX:=G (kB e9.out);have eB:=G (io bX.out.1);have bV:=G (pv bX.out.2.1);have fc:y0.length<=6:=by have:=eB.out.1;have:=dX.out;omega
 have bQ:i<q.a.length:=by have:=bV.out;omega
 have e4:i<q.c.length:=by have:=bV.out;omega
 have fJ:q.b.length<=8:=bV.out.2.1;obtain⟨b1,b9,gs,eR,e2,dD,cW⟩:=dt.out.a.at_ bQ;subst eR;obtain⟨bK,bt,rfl⟩:=cW.form;have ev:=G cW
 have ea:Y (q.a[i].length=i):=G (by
  have dE:=congrArg (λl=>l[i]?) bV.out.2.2.2.2.2.1;simp only[List.getElem?_map,aT bQ,Option.map_some,List.getElem?_range bQ]at dE;exact Option.some.inj dE)
 have eg:=G (bR.out.iq.a _ (cq bQ));have ei:Y ((q.a.map aN).getD i []=aN q.a[i]):=G (by rw[bz,List.getElem?_map,aT bQ];rfl);obtain⟨bB,cn⟩:∃bB,Y (Z.fD q.pr t h0 y0 ((aN q.c).getD i 0) ((q.a.map aN).getD i []) ks=bB):=⟨_,G rfl⟩;rw[cn.out];rw[ei.out]at cn;generalize q.a[i]=bG at*;have ew:Y (aU 4 w0 (D bK bG.length bt) (aN bG)):=G (ev.out.aN eg.out (by omega));have fV:(0:Int)<=(i:Int):=by omega
 have fW:(i:Int)<(q.a.length:Int):=by omega
 have fX:((i:Int)).toNat=i:=by omega
 have eW:w.cell? ⟨b1,b9+i,none⟩=U (D bK bG.length bt):=(cA.cell (p:=⟨b1,b9+i,none⟩) e2).trans dD;have eX:=λcp=>cx (o:=cp) eW
 have fe:=λcp=>cx (o:=cp) (g.k 6)
 have bW:=G g;have bq:=G cN;have eF:=G cP;have df:=G cO;have ci:=G cA;clear g cN cP cO dD cA cW;go_enter func75,ntmps75;go_wp2_with fail;generalize N:ah w _=fr at*;obtain⟨e,f⟩:=aC N;clear N;have m:=f.c4;have ai:=f.free;obtain⟨j,ck⟩:∃j,Y (Z.from_ y0 h0 (aN bG) ks=j):=⟨_,G rfl⟩;have cm:Y (j.length=y0.length):=G (by rw[<-ck.out];unfold Z.from_ Z.fh;simp[Z.ir]);have c5:Y ((aN bG).length=ks.length):=G (by unfold aN;rw[List.length_map,ea.out,b8.out]);have e3:(aN bG).length<=8:=by rw[c5.out,b8.out];omega
 obtain⟨bu,cd⟩:∃bu,Y (Z.fits (Ga.a5 q.bits) j i=bu):=⟨_,G rfl⟩;have da:=G (kD (L:=Ga.a5 q.bits) (l:=j) (s:=i));have db:=G (kC (L:=Ga.a5 q.bits) (l:=j) (s:=i));have ep:=G (Ga.mI q.bits)
 have ch:Y (bB=if bu=Z.aG then(if(Z.field (Ga.a5 q.bits) q.code q.os (t+h0*(aN q.c).getD i 0) j q.p).1=Z.aG then(Z.aG,j,(Z.field (Ga.a5 q.bits) q.code q.os (t+h0*(aN q.c).getD i 0) j q.p).2)else(((Z.field (Ga.a5 q.bits) q.code q.os (t+h0*(aN q.c).getD i 0) j q.p).1.1,(Z.field (Ga.a5 q.bits) q.code q.os (t+h0*(aN q.c).getD i 0) j q.p).1.2.1,(i:Int),(Z.field (Ga.a5 q.bits) q.code q.os (t+h0*(aN q.c).getD i 0) j q.p).1.2.2.2),[],[]))else(bu,[],[])):=G (by
  have eN:=ck.out;have eO:=b8.out;have eP:=cd.out;have eQ:=cn.out;subst eN eO eP eQ;rfl)
 rw[cd.out]at da db;have bZ:=ci.out.trans e
 ((with_reducible refine(tS (bW.out.up e) (ew.out.up bZ) (df.out.up e).jD (ce.out.up bZ) (eC.out.up bZ) rfl c5.out (by omega) e5 e3 (by omega) (by omega) (by omega) (by omega)).mono ?_))
 rintro bF fs ⟨fo,rfl,bL,u1⟩;rw[ck.out]at bL;obtain⟨an,aq,rfl⟩:=bL.form;clear bZ fe eX;revert e f m;refine bo u1 ?_;intro e f m;replace ai:=f.free;clear u1;go_wp2_with fail;have fa:w.heap.size≠gg:=by have:=bq.out.lt;omega
 ((with_reducible refine(m6 (bW.out.up e) rfl (bq.out.up e) bL.a (by omega) (by have:=cm.out;omega) (by omega)).mono ?_))
 rintro bF cB ⟨cC,d7,rfl,gb,dM,B2⟩;rw[cd.out];have u:=((Kt.refl w).up e).gb (bq.out.up e) B2;replace f:=B2.bx f fa;have g:=B2.bx (bW.out.up e) cU;have A:=B2.rws (df.out.up e) (bq.out.up e);have B:=B2.rws (eF.out.up e) (bq.out.up e);have dA:=B2.own (aR _) bL.a (bq.out.up e) (by decide);have dz:=B2.du (ci.out.trans e) dQ;have dV:w0.heap.size<=w.heap.size:=ci.out.size;have fS:gm<w.heap.size:=bW.out.lt;have fK:gg<w.heap.size:=bq.out.lt;clear e bL B2 m ai;have e:=dz;clear dz;have C:=gb.c3;have m:=f.c4;have ai:=f.free;unfold cJ
 by_cases b7:bu=Z.aG
 rotate_left
 .have fM:(bu.1==0)=false:=by
   rw[beq_eq_false_iff_ne];rcases da.out with bb|bb
   .exact absurd bb b7
   .omega
  have bY:Y (bB=(bu,[],[])):=G (by rw[ch.out,if_neg b7]);have cM:=ez C;have cY:=ez m;have cZ:=f.fa;go_wp2_with fail;clear cM cY cZ;generalize N:ah cB _=bC at*;obtain⟨aw,n⟩:=aC N;clear N;have fg:=g.lt;have eY:=gb.lt;have fh:=f.lt;revert gb u f g A B e C m;refine bE aw ?_;intro gb u f g A B e C m
  replace ai:=f.free;clear aw;have R:=n.c4;generalize N:ag (ag (ag (ag bC _ _) _ _) _ _) _ _=ft at*;have y:=bp f N;clear N;replace A:=A.bs y;replace B:=B.bs y;replace u:=u.bs y;replace g:=g.bs y;replace gb:=gb.bs y;replace n:=n.bs y;replace f:=y.new;replace e:=e.bs y;clear y;clear C m R;have C:=gb.c3;have m:=f.c4;have R:=n.c4;exact a4 (cl rfl rfl bM bN f rfl) rfl (iu.bad bY.out b7 e u)
 .subst b7;obtain⟨mo,cg⟩:∃mo,Y (t+h0*(aN q.c).getD i 0=mo):=⟨_,G rfl⟩;obtain⟨r,bU⟩:∃r,Y (Z.field (Ga.a5 q.bits) q.code q.os mo j q.p=r):=⟨_,G rfl⟩;have c9:=G (Z.m8 (Ga.a5 q.bits) q.code q.os mo j q.p);have bY:Y (bB=if r.1=Z.aG then(Z.aG,j,r.2)else((r.1.1,r.1.2.1,(i:Int),r.1.2.2.2),[],[])):=G (by rw[ch.out,if_pos rfl,cg.out,bU.out]);rw[bU.out]at c9;clear ch;have F:aF 130 cB (D an j.length aq) j:=aF.re dA (db.out rfl ep.out.2);have er:Y (E.Lq mo (kt+(kh+6)+1)):=G (by rw[<-cg.out];exact du.out.lq.add (ce.out.lq.mul (hH (dt.out.c.aN bR.out.iq.c (by omega)).lq i)));have ef:Y ((j.length:Int)=q.ar):=G (by rw[cm.out];exact dX.out);have ed:Y (-9223372036854775808<=q.bits/\q.bits<=9223372036854775807):=G bR.out.bits;clear dA;unfold Z.aG;simp only;have cM:=ez C;have cY:=ez m;have cZ:=f.fa;go_upto_region 5 with fail
  clear cM cY cZ;generalize N:ah cB _=bC at*;obtain⟨aw,n⟩:=aC N;clear N;have fg:=g.lt;have eY:=gb.lt;have fh:=f.lt;revert gb u f g A B e C m F;refine bw aw ?_;intro gb u f g A B e C m F
  replace ai:=f.free;clear aw;have R:=n.c4
  go_cut [7,8] (λfj fk bd=> ∃(cK:Nat) (M:Option am) (P bt:Nat),fj=D M P bt/\fk=az (U ⟨cK,0,none⟩)/\Bx 63 bd cK [H I r.1.1,H I r.1.2.1,H I r.1.2.2.1,H I r.1.2.2.2]/\w.heap.size<cK/\Bx 110 bd gm [D cw q.code.length cD,D cz q.os.length cE,H I q.ar,H I q.par,al q.nm,D cu q.c.length cG,D (U ⟨b1,b9,none⟩) q.a.length cF,D ct q.b.length cb,D cv q.e.length cH,D cr q.p.length cI,H I q.bits,J s1,D A1 n1 c1,D D1 m1 d1,J s2,D A2 n2 c2,D D2 m2 d2,D YA y0.length cy,az (U ⟨gg,0,none⟩),D bJ ys.length bO,D br ks.length bs,vN,vE]/\Bx 154 bd gg [H I cC,H I d7,H I (Ga.a5 q.bits)]/\Bx 63 bd w.heap.size [H I 0,H I 0,H I 0,H I 0]/\bk 130 w0 bd (D br ks.length bs) ks/\bk 130 w0 bd (D bJ ys.length bO) ys/\aF 130 bd (D an j.length aq) j/\eM 130 bd (D M P bt) r/\Kt w bd/\V w0 bd)
  case first=>
   obtain⟨aB,aD,aM,aO,aQ,aS,aV,aY,a1,a2,aE,aG,aH,aI,aJ,aK,aL⟩:=g.dg;clear R;revert n gb u f g A B e F aB aD aM;refine au (V.refl bC).drew ?_;intro n gb u f g A B e F aB aD aM;revert aO aQ aS aV aY a1 a2 aE aG aH aI aJ;refine au (V.refl bC).drew ?_;intro aO aQ aS aV aY a1 a2 aE aG aH aI aJ;revert C m aK aL;refine bf (V.refl bC).drew ?_;intro C m aK aL
   replace ai:=f.free;have R:=n.c4;refine aZ ?_;refine a3 (S:=λd8=>V w0 d8/\Cz d8 gm 0 [D cw q.code.length cD,D cz q.os.length cE,H I q.ar,H I q.par,al q.nm,D cu q.c.length cG,D (U ⟨b1,b9,none⟩) q.a.length cF,D ct q.b.length cb,D cv q.e.length cH,D cr q.p.length cI,H I q.bits,J s1,D A1 n1 c1,D D1 m1 d1,J s2,D A2 n2 c2,D D2 m2 d2]) (by kernel_rfl) (by exact⟨e,g.cy 0 17⟩) (λa9=> ?_);generalize bC.drew=bi at*;refine aa 0 ?_;refine aa 1 ?_;refine aa 2 ?_;refine aa 3 ?_;refine aa 4 ?_;refine aa 5 ?_;refine aa 6 ?_;refine aa 7 ?_;refine aa 8 ?_;refine aa 9 ?_;refine aa 10 ?_;refine aa 11 ?_;refine aa 12 ?_;refine aa 13 ?_;refine aa 14 ?_;refine aa 15 ?_;refine aa 16 ?_;refine aa 17 ?_;refine aa 18 ?_;refine aa 19 ?_;refine aa 20 ?_;refine aa 21 ?_;refine aa 23 ?_;refine aa 25 ?_;refine aa 26 ?_;refine aa 27 ?_;refine aa 28 ?_;refine aa 29 ?_
   repeat' first
    |refine aa 31 ?_
    |refine aa 32 ?_
    |refine aa 33 ?_
    |refine aa 35 ?_
    |refine ak [22,34] ?_
    |refine ak [22] ?_
    |refine ak [24,34] ?_
    |refine ak [24] ?_
    |refine ak [30,34] ?_
    |refine ak [30] ?_
    |refine ak [34] ?_
    |refine ak [36] ?_
    |refine av (i:=22) rfl (λbh dJ=> ?_) ?_
    |refine av (i:=24) rfl (λbh dS=> ?_) ?_
    |refine av (i:=30) rfl (λbh dY=> ?_) ?_
    |refine av (i:=34) rfl (λbh ec=> ?_) ?_
    |refine av (i:=36) rfl (λbh ee=> ?_) ?_
    |exact bm
    |(have ar:=dJ;clear dJ
      (try clear a9)
      go_simp;go_at_call 117
      with_reducible refine(tP (dk.out.up e) bR e4 (du.out.up e) (ce.out.up e) (by omega) (by omega)).mono ?_
      rintro bF bi ⟨fp,rfl,ay,z⟩;revert n gb u f g A B e F aB aD aM;refine au z ?_;intro n gb u f g A B e F aB aD aM;revert aO aQ aS aV aY a1 a2 aE aG aH aI aJ;refine au z ?_;intro aO aQ aS aV aY a1 a2 aE aG aH aI aJ;revert aK aL;refine cR z ?_;intro aK aL
      try(replace x:=x.up z)
      try(replace a5:=a5.up z)
      try(replace v:=v.up z)
      clear C;have C:=gb.c3;replace ai:=f.free;clear m;have m:=f.c4;clear R;have R:=n.c4;clear z;rw[cg.out]at ay;obtain⟨fu,fv,rfl,ay,a5⟩:=ay;obtain⟨fm,fZ,fx,rfl⟩:=ay.shape;obtain⟨fn,f0,fy,rfl⟩:=a5.shape
      try go_wp2_with fail
      refine ax ar (by exact⟨e,g.cy 0 17⟩) (λa9=> ?_);clear ar bh)
    |(have ar:=dS;clear dS
      (try clear a9)
      go_simp;go_at_call 116
      with_reducible refine(Ct (dk.out.up e)).mono ?_
      rintro bF bi ⟨rfl,z⟩;revert n gb u f g A B e F aB aD aM;refine au z ?_;intro n gb u f g A B e F aB aD aM;revert aO aQ aS aV aY a1 a2 aE aG aH aI aJ;refine au z ?_;intro aO aQ aS aV aY a1 a2 aE aG aH aI aJ;revert aK aL;refine cR z ?_;intro aK aL
      try(replace ay:=ay.up z)
      try(replace x:=x.up z)
      try(replace a5:=a5.up z)
      try(replace v:=v.up z)
      clear C;have C:=gb.c3;replace ai:=f.free;clear m;have m:=f.c4;clear R;have R:=n.c4;clear z
      try go_wp2_with fail
      refine ax ar (by exact⟨e,g.cy 0 17⟩) (λa9=> ?_);clear ar bh)
    |(have ar:=dY;clear dY
      (try clear a9)
      go_simp;go_at_call 115
      with_reducible refine(BO (ex.out.up (cV 0) e) (et.out.up e) (G bR.out.bd) (G bX.out.1) ef (G bX.out.2.2) ed.out ((il ay a5).fr er.out) F.fs (eu.out.up e) (by omega) (by omega) (by omega)).mono ?_
      rintro bF bi ⟨fq,rfl,x,⟨M,P,bt,rfl⟩,z⟩;revert n gb u f g A B e F aB aD aM;refine au z ?_;intro n gb u f g A B e F aB aD aM;revert aO aQ aS aV aY a1 a2 aE aG aH aI aJ;refine au z ?_;intro aO aQ aS aV aY a1 a2 aE aG aH aI aJ;revert aK aL;refine cR z ?_;intro aK aL
      try(replace ay:=ay.up z)
      try(replace a5:=a5.up z)
      try(replace v:=v.up z)
      clear C;have C:=gb.c3;replace ai:=f.free;clear m;have m:=f.c4;clear R;have R:=n.c4;clear z;rw[bU.out]at x;rw[bU.out];unfold cJ;replace x:eM 130 bi (D M P bt) r:=x
      try go_wp2_with fail
      refine ax ar (by exact⟨e,g.cy 0 17⟩) (λa9=> ?_);clear ar bh)
    |(have ar:=ec;clear ec
      (try clear a9)
      go_simp;have fY:=g.lt;have fI:=gb.lt;have bS:=f.lt;have fz:=n.lt;have fA:=e.size;generalize dO:bi.heap.size=bj at*;generalize N:ah bi _=bi at*;obtain⟨aw,v⟩:=b3 N dO;clear N dO;revert n gb u f g A B e F aB aD aM;refine au aw ?_;intro n gb u f g A B e F aB aD aM;revert aO aQ aS aV aY a1 a2 aE aG aH aI aJ;refine au aw ?_;intro aO aQ aS aV aY a1 a2 aE aG aH aI aJ;revert aK aL;refine cR aw ?_;intro aK aL
      try(replace ay:=ay.up aw)
      try(replace x:=x.up aw)
      try(replace a5:=a5.up aw)
      clear C;have C:=gb.c3;replace ai:=f.free;clear m;have m:=f.c4;clear R;have R:=n.c4;clear aw;refine ax ar (by exact⟨e,g.cy 0 17⟩) (λa9=> ?_);clear ar bh)
    |(have ar:=ee;clear ee
      (try clear a9)
      obtain⟨eI,eJ,eK,eL⟩:=v.c4;have eS:=v.free 0;have eT:=v.free 1;have eU:=v.free 2;have eV:=v.free 3;go_simp;clear eI eJ eK eL eS eT eU eV;generalize N:ag (ag (ag (ag bi _ _) _ _) _ _) _ _=bi at*;have y:=bp v N;clear N;replace A:=A.bs y;replace B:=B.bs y;replace u:=u.bs y;replace F:=F.bs y
      try(replace ay:=ay.kw y.kw)
      try(replace x:=x.bs y)
      try(replace a5:=a5.kw y.kw)
      replace g:=g.bs y;replace gb:=gb.bs y;replace f:=f.bs y;replace n:=n.bs y;replace v:=y.new;replace e:=e.bs y;clear y;clear aB aD aM aO aQ aS aV aY a1 a2 aE aG aH aI aJ aK aL;obtain⟨aB,aD,aM,aO,aQ,aS,aV,aY,a1,a2,aE,aG,aH,aI,aJ,aK,aL⟩:=g.dg;clear C;have C:=gb.c3;replace ai:=f.free;clear m;have m:=f.c4;clear R;have R:=n.c4;refine ax ar (by exact⟨e,g.cy 0 17⟩) (λa9=> ?_);clear ar bh)
    |refine aW (by decide +kernel) (aX ?_) _
    |fail
   all_goals try clear a9
   all_goals obtain⟨b2,b4,b5,b6⟩:=v.c4
   all_goals
    have e6:=bS;go_wp2_with fail
    go_meet
    exact⟨bj,_,_,_,rfl,rfl,v,e6,g,gb,f,A,B,F,x,u,e⟩
  case rest=>
   as_aux_lemma=>
   obtain⟨bj,M,P,aA,rfl,rfl,v,bS,g,gb,f,A,B,F,x,u,e⟩:=hcut;clear n R C m ai;obtain⟨b2,b4,b5,b6⟩:=v.c4;have m:=f.c4;have ai:=f.free
   by_cases bP:r.1=Z.aG
   rotate_left
   .have dR:(r.1.1==0)=false:=by
     rw[beq_eq_false_iff_ne];rcases c9.out with bb|bb
     .exact absurd bb bP
     .omega
    have co:Y (bB=((r.1.1,r.1.2.1,(i:Int),r.1.2.2.2),[],[])):=G (by rw[bY.out,if_neg bP])
    have e8:((r.1.1,r.1.2.1,(i:Int),r.1.2.2.2):bv)≠Z.aG:=λbb=>by
     have eZ:r.1.1=0:=congrArg Prod.fst bb;rw[eZ]at dR;cases dR
    have fB:=v.free 2;have dB:=v.set 2 (H I (i:Int));obtain⟨f5,q1,f6,f7⟩:=Bx.c4 dB;have dN:bj≠w.heap.size:=by have:=bS;omega
    have bx:=f.ck (p:=⟨bj,2,none⟩) (λbF=>dN bF.symm) (H I (i:Int));obtain⟨f1,f2,f4,p3⟩:=Bx.c4 bx;have f9:=bx.free 0;have ga:=bx.free 1;have gc:=bx.free 2;have gd:=bx.free 3;have eA:=G (e.setCell (p:=⟨bj,2,none⟩) (by dsimp only;have:=bS;omega) (H I (i:Int)));have ds:=G bx;have el:Y (Kt w (wc.setCell ⟨bj,2,none⟩ (H I (i:Int)))):=G (u.jG v);clear u;clear g gb A B F x f bx v dB e bP m ai;go_wp2_with fail;obtain⟨ca,c0,fl,c3⟩:=tV (a:=r.1.1) (b:=r.1.2.1) (c:=(i:Int)) (d:=r.1.2.2.2) eA.out ds.out dV;exact a4 (cl rfl rfl bM bN c0 rfl) rfl (iu.bad co.out e8 ca (el.out.wB ds.out))
   .obtain⟨fH,bT⟩:=r;simp only at bP;subst bP;have co:Y (bB=(Z.aG,j,bT)):=G (by rw[bY.out,if_pos rfl]);have bK:aF 130 wc (D M P aA) bT:=x rfl;have dy:Y (bk 130 w0 (wc.alloc (ao #[D an j.length aq] 44)) (D bJ ys.length bO) ys):=G (B.up ((V.refl wc).alloc _));have cf:Y (bk 130 w0 (wc.alloc (ao #[D an j.length aq] 44)) (D br ks.length bs) ks):=G (A.up ((V.refl wc).alloc _));have dv:=G (e.alloc (ao #[D an j.length aq] 44));have dm:Y (it 130 (wc.alloc (ao #[D an j.length aq] 44)) [D an j.length aq] j):=G ⟨_,rfl,F.up ((V.refl wc).alloc _)⟩;have dx:=G (bK.up ((V.refl wc).alloc (ao #[D an j.length aq] 44)));have di:=G (g.up ((V.refl wc).alloc (ao #[D an j.length aq] 44)));have dc:=G (gb.up ((V.refl wc).alloc (ao #[D an j.length aq] 44)));have dp:=G (f.up ((V.refl wc).alloc (ao #[D an j.length aq] 44)));have c6:=G (v.up ((V.refl wc).alloc (ao #[D an j.length aq] 44)));have dg:=G (u.up ((V.refl wc).alloc (ao #[D an j.length aq] 44)));clear u;have ff:=g.k 19;have fT:ys.length<=8:=by have:=fb.out;omega
    have fO:ks.length<=8:=by have:=b8.out;omega
    have dN:=bS;obtain⟨ab,eo⟩:∃l,Y ((ys++[j]).length=l):=⟨_,G rfl⟩;obtain⟨ba,en⟩:∃l,Y ((ks++[bT]).length=l):=⟨_,G rfl⟩;clear B A x bK F gb f g m;unfold Z.aG at v b2 b4 b5 b6;simp only at v b2 b4 b5 b6;have dP:bj≠gm/\bj≠w.heap.size:=by omega
    go_wp2_with(first
     |(at_builtin
       refine hB (i5 130) underlying45 hJ hK (by omega) (w0:=w0) rfl _ _ rfl rfl dy.out dv.out rfl (Bx.new 44 wc [D an j.length aq]) dm.out (by omega) ?_;clear v b2 b4 b5 b6 ff dm dy dv ai;intro eH bD bg Q bI bH bn;obtain⟨T,X,rfl⟩:=aP.form bg;rw[eo.out]at bg bn|-;have K:=Q.bx (by decide) di.out;have d0:=K.free 19;have dZ:=K.k 19;have cX:=K.set 19 (D T ab X);have fd:=cX.k 20;have bl:Kw bD (bD.setCell ⟨gm,19,none⟩ (D T ab X)):=Kw.store (c:=D bJ ys.length bO) K rfl trivial _;have cc:Y (gj (D T ab X) (D br ks.length bs)):=G (gj.grown dF cf.out (a8 _) bn);have cj:Y (bk 130 w0 ((bD.setCell ⟨gm,19,none⟩ (D T ab X)).alloc (ao #[D M P aA] 44)) (D T ab X) (ys++[j])):=G ((bk.stored bg K (by decide) bl).up ((V.refl _).alloc _));have de:Y (bk 130 w0 ((bD.setCell ⟨gm,19,none⟩ (D T ab X)).alloc (ao #[D M P aA] 44)) (D br ks.length bs) ks):=G ((bk.stored (bk.grow cf.out Q bH dF.symm) K (by decide) bl).up ((V.refl _).alloc _));have dn:Y (it 130 ((bD.setCell ⟨gm,19,none⟩ (D T ab X)).alloc (ao #[D M P aA] 44)) [D M P aA] bT):=G ⟨_,rfl,(aF.stored (Q.own (aR 130) (by decide) dx.out) K (by decide) bl).up ((V.refl _).alloc _)⟩;have dw:=G ((bI.setCell (p:=⟨gm,19,none⟩) cS (D T ab X)).alloc (ao #[D M P aA] 44));have dj:=G (cX.up ((V.refl _).alloc (ao #[D M P aA] 44)));have dd:=G (((Q.bx (by decide) dc.out).ck (p:=⟨gm,19,none⟩) cU.symm (D T ab X)).up ((V.refl _).alloc (ao #[D M P aA] 44)));have dq:=G (((Q.bx (by decide) dp.out).fr gm 19 (D T ab X)).up ((V.refl _).alloc (ao #[D M P aA] 44)));have c8:=G (((Q.bx (by decide) c6.out).ck (p:=⟨gm,19,none⟩) dP.1 (D T ab X)).up ((V.refl _).alloc (ao #[D M P aA] 44)));have dh:=G (((dg.out.ap Q).nJ (i:=19) (x:=D T ab X) K).up ((V.refl _).alloc (ao #[D M P aA] 44)));clear dg;have cQ:=Bx.new 44 (bD.setCell ⟨gm,19,none⟩ (D T ab X)) [D M P aA];rw[Cs]at cQ;have c4:=G cQ;clear bg bn Q bI bH bl K cX cf dx di dc dp c6 cQ)
     |(at_builtin
       refine hB (i5 130) underlying45 hJ hK (by omega) (w0:=w0) rfl _ _ rfl rfl de.out dw.out rfl c4.out dn.out (by omega) ?_;clear dn dw c4 fd d0 dZ;intro eH b0 bg Q bI bH bn;obtain⟨a6,a7,rfl⟩:=aP.form bg;rw[en.out]at bg bn|-;have K:=Q.bx (by decide) dj.out;have d0:=K.free 20;have dZ:=K.k 20;have es:=G (K.set 20 (D a6 ba a7));have bl:Kw b0 (b0.setCell ⟨gm,20,none⟩ (D a6 ba a7)):=Kw.store (c:=D br ks.length bs) K rfl trivial _;have eb:Y (gj (D T ab X) (D a6 ba a7)):=G (gj.grown cc.out.symm cj.out (a8 _) bn).symm;have eE:Y (bk 130 w0 (b0.setCell ⟨gm,20,none⟩ (D a6 ba a7)) (D T ab X) (ys++[j])):=G (bk.stored (bk.grow cj.out Q bH cc.out) K (by decide) bl);have ej:Y (bk 130 w0 (b0.setCell ⟨gm,20,none⟩ (D a6 ba a7)) (D a6 ba a7) (ks++[bT])):=G (bk.stored bg K (by decide) bl);have ek:=G ((dh.out.ap Q).nJ (i:=20) (x:=D a6 ba a7) K);clear dh;have ey:=G (bI.setCell (p:=⟨gm,20,none⟩) cS (D a6 ba a7));have eh:=G ((Q.bx (by decide) dd.out).ck (p:=⟨gm,20,none⟩) cU.symm (D a6 ba a7));have bA:=(Q.bx (by decide) dq.out).fr gm 20 (D a6 ba a7);have dr:=G bA;have dC:=(Q.bx (by decide) c8.out).ck (p:=⟨gm,20,none⟩) dP.1 (D a6 ba a7);obtain⟨fC,fD,fF,fG⟩:=dC.c4;obtain⟨ge,gh,gi,gl⟩:=bA.c4;have gn:=bA.free 0;have gp:=bA.free 1;have gq:=bA.free 2;have gr:=bA.free 3;clear bg bn Q bI bH bl K bA dC dj dd dq c8 cj de cc))
    obtain⟨ca,c0,fl,c3,d9⟩:=tV (a:=0) (b:=0) (c:=0) (d:=0) ey.out dr.out dV;have fU:j.length<=6:=by rw[cm.out];exact fc
    have e1:cC<=a+6:=by have:=dM.2;have:=e0.2;omega
    exact a4 (cl rfl rfl bM bN c0 rfl) rfl (iu.bV co.out ca (ek.out.wB dr.out) ⟨_,_,cC,d7,⟨dM.1,e1⟩,c3 (by omega) es.out,c3 (by omega) eh.out,d9 (by decide) eE.out,d9 (by decide) ej.out,eb.out,ca,cS,dQ⟩)
end Go.Proofs.YtjopfpegcckllaaGreatDoor
