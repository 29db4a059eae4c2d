/- Terms. -/
import Derived.Test.YtckfnbckoclhpaaGreatDoorE15
import Derived.Test.YtckfnbckoclhpaaGreatDoorC03
import Derived.Test.YtckfnbckoclhpaaGreatDoorE08
import Derived.Deep.RegionHeld3
import Derived.Test.YtckfnbckoclhpaaGreatDoorC07
namespace Go.Proofs.YtckfnbckoclhpaaGreatDoor
set_option linter.unusedVariables false
set_option linter.unusedSimpArgs false
set_option maxRecDepth 100000
set_option maxHeartbeats 16000000
section
open Go.RowKit
def zcr(fs:List (Key×Int)):Key:=fs.flatMap fun f=>za7 f.2++(42::(f.1++[43]))
theorem zlY{fs:List (Key×Int)}{i:Nat}{k:Key}{z:Int}(h:fs[i]?=some (k,z)):zcr (fs.take (i+1))=zcr (fs.take i)++(za7 z++(42::(k++[43]))):=by unfold zcr;rw [List.take_add_one,h,List.flatMap_append];simp
theorem zmx(fs:List (Key×Int))(i:Nat):(zcr (fs.take i)).length≤(zcr fs).length:=by
 have h:zcr fs=zcr (fs.take i)++zcr (fs.drop i):=by unfold zcr;rw [←List.flatMap_append,List.take_append_drop]
 rw [h,List.length_append];omega
theorem znd(a b:List UInt8):(⟨a.toArray⟩++⟨#[42]⟩++⟨b.toArray⟩++⟨#[43]⟩:ByteArray)=⟨(a++(42::(b++[43]))).toArray⟩:=by apply ByteArray.ext;simp
theorem zk4{B b:Nat}{t:TypeId}{j:Array Value}{w w':World}(h:Below B w w')(k:Blk w b t j)(o:b<B)(i:Nat):w'.cell? ⟨b,i,none⟩=j[i]?:=(h.cell (p:=⟨b,i,none⟩) o).trans (k.cell i)
theorem zrJ{B:Nat}{a w w':World}(h:Below B a w)(p:Pu w w')(i:B≤a.heap.size):Below B a w':=h.trans ⟨p.os,p.tape,p.output,p.size,fun k j=>p.block k (Nat.lt_of_lt_of_le j (Nat.le_trans i h.size)) (fun x=>x)⟩
theorem zlo:∀(k n:Nat),n<10^k→(zeK n).length≤k
 |0,n,h=>by
  have:n=0:=by simpa using h
  rw [this,zcS];exact Nat.le_refl _
 |k+1,n,h=>by
  by_cases e:n=0
  ·rw [e,zcS];exact Nat.zero_le _
  ·rw [zdX e,List.length_cons];have:=zlo k (n/10) (by
    rw [Nat.pow_succ]at h;exact Nat.div_lt_of_lt_mul (by rw [Nat.mul_comm];exact h))
   omega
theorem zq8(a:Nat):4294967296^a≤10^(10*a):=by rw [Nat.pow_mul];exact Nat.pow_le_pow_left (by decide) a
theorem zgc{z:Int}{a:Nat}(h:z.natAbs<4294967296^a):(za7 z).length≤10*a+1:=by
 have i:=zlo (10*a) z.natAbs (Nat.lt_of_lt_of_le h (zq8 a));unfold za7;split
 ·simp
 ·rw [List.length_append,List.length_map,List.length_reverse];split
  ·simp;omega
  ·simp;omega
theorem zeq(v:Value)(rest:Int)(fs:List (Key×Int))(w:World)(h:TM w v rest fs)(hr:rest.natAbs<4294967296^E4)(hf:∀f∈fs,f.2.natAbs<4294967296^E4)(hl:(zcr fs).length≤140737488355328):Calls Tryz.prog 33 #[v] w fun e w'=>e= .returned (.string ⟨(zy rest fs).toArray⟩)∧Pu w w':=by
 obtain⟨g,A,n,c,m,rfl⟩:=h.shape;obtain⟨W,hWe⟩:∃W,W=(w.alloc (.cells #[.bool g,.slice A n c,.pointer m] 33)).alloc (.cells #[.pointer none,.slice none 0 0] 147):=⟨_,rfl⟩
 have pW:Pu w W:=by rw [hWe];exact((Pu.refl w).alloc _).alloc _
 have k1:Blk W w.heap.size 33 #[.bool g,.slice A n c,.pointer m]:=by rw [hWe];exact(Blk.new w _ _).alloc _
 have k2:Blk W (w.heap.size+1) 147 #[.pointer none,.slice none 0 0]:=by rw [hWe];exact Blk.at_new _ _ _ (by simp)
 have bp:W.heap.size=w.heap.size+2:=by rw [hWe];simp
 have M:=zca _ _ _ _ (h.pu pW);have Hz:=Qh h.rest_;have Hp:=Qh M;rw [hWe]at Hp;have av:=Qh hWe;have Y:=Qh (AI hr (AI hf hl));clear hWe h M hr hf hl;go_enter Tryz.func33,Tryz.ntmps33;go_wp2_with fail;refine Hp.out.mono ?_;rintro e L ⟨A4,I,c4,LG,rfl,aq,bt,R,ao,G⟩;rw [←av.out]at G ao;have j1:=k1.pu G;have aE:Bld L (w.heap.size+1) L.heap.size []:=Bld.new (k2.pu G) (by have:=G.size;omega);have bg:=G.size;have PW:=pW.trans G;have bo:LG.length=I:=ziT aq;have kb:=k2.pu G;clear G k1 k2 Hp av;go_wp2_with fail
 go_loopw [9] (fun iv ws=>∃i:Nat,i≤I∧iv= .int .i64 (i:Int)∧Bld ws (w.heap.size+1) L.heap.size (zcr (fs.take i))∧Fr (fun j=>j=w.heap.size+1) L ws) (fun iv _=>I - (intOf iv).toNat)
 case atStart=>exact⟨0,Nat.zero_le _,rfl,aE,Fr.refl _ _⟩
 case round=>
  obtain⟨i,hi,rfl,T,E⟩:=hrel;have aK:=E.size;have X:=j1.fr E (by omega);by_cases bn:i<I
  ·obtain⟨p,M⟩:∃p,LG[i]?=some p:=⟨_,List.getElem?_eq_getElem (by omega)⟩
   obtain⟨gg,hgi⟩:∃g,fs[i]?=some g:=⟨_,List.getElem?_eq_getElem (by rw [←R.1];omega)⟩
   obtain⟨k,qg,qA,qn,qc⟩:=p;obtain⟨k',z⟩:=gg;obtain⟨ek,hq⟩:=R.2 i _ _ M hgi;dsimp only at ek hq;subst ek;have ax:Sl wr 3 A4 I c4 (kps vcZ LG):=aq.fr E (fun _ b' off e hS=>by have h5:=ao b' off e;omega);obtain⟨bb,off,rfl,bq,x0,x1,x2⟩:=atZ ax M;have au:=hq.frT E (fun g hg=>by subst hg;exact⟨_,_,_,kb,by decide⟩);have aG:=Qh (Y.out.2.1 _ (List.mem_of_getElem? hgi));have O:=zlY hgi;have ap:=zmx fs (i+1);rw [O,List.length_append]at ap;have a6:=Y.out.2.2;have aH:(za7 z).length+k.length+2≤140737488355328:=by
    have e:(za7 z++(42::(k++[43]))).length=(za7 z).length+k.length+2:=by simp;omega
    omega
   have ai:(zcr (fs.take i)).length+(za7 z++(42::(k++[43]))).length≤140737488355328:=by omega
   have aO:=Qh ai;clear ai ap a6;have N:∃C F H y3:ByteArray,C=⟨(za7 z).toArray⟩∧y3=⟨(za7 z++(42::(k++[43]))).toArray⟩∧(∀V,(Op.stringOp .add C ⟨#[42]⟩).run Tryz.prog V= .ok (.string F) V)∧(∀V,(Op.stringOp .add F ⟨k.toArray⟩).run Tryz.prog V= .ok (.string H) V)∧(∀V,(Op.stringOp .add H ⟨#[43]⟩).run Tryz.prog V= .ok (.string y3) V):=by
    refine⟨_,_,_,_,rfl,znd (za7 z) k,fun V=>run_string_add_sum V _ _ ?_,fun V=>run_string_add_sum V _ _ ?_,fun V=>run_string_add_sum V _ _ ?_⟩
    ·simp [ByteArray.size];omega
    ·simp [ByteArray.size,ByteArray.data_append];omega
    ·simp [ByteArray.size,ByteArray.data_append];omega
   obtain⟨C,F,H,y3,P,e3,a1,a2,a3⟩:=N;have J:=Qh (AI P e3);clear P e3 aH;have aL:=Qh O;obtain⟨U,hU⟩:∃U,U=wr.alloc (.cells #[.string ⟨k.toArray⟩,.bool qg,.slice qA qn qc] 119):=⟨_,rfl⟩
   have pB:Pu wr U:=by rw [hU];exact(Pu.refl _).alloc _
   have K:Blk U wr.heap.size 119 #[.string ⟨k.toArray⟩,.bool qg,.slice qA qn qc]:=by rw [hU];exact Blk.new _ _ _
   have HU:=Qh hU;have bu:IntKind.i64.wrap ((i:Int)+1)=(i:Int)+1:=IntWalk.i64_in _ (by omega);have aP:=au.pu pB;have am:=T.pu pB;have ak:=E.pu pB;have t:∀V,Pu U V→Calls Tryz.prog 56 #[.agg #[.bool qg,.slice qA qn qc]] V fun e w'=>e= .returned (.string C)∧Pu V w':=fun V p=>by rw [J.out.1];exact zfJ _ z _ (aP.pu p) aG.out
   have Q:∀V,Pu U V→Calls Tryz.prog 65 #[.pointer (some ⟨w.heap.size+1,0,none⟩),.string y3] V fun e w'=>(∃x y,e= .returned (.tuple #[x,y]))∧Bld w' (w.heap.size+1) L.heap.size (zcr (fs.take (i+1)))∧Fr (fun j=>j=w.heap.size+1∨L.heap.size≤j) V w':=fun V p=>by rw [J.out.2,aL.out];exact zoo _ _ _ _ _ (am.pu p) (Nat.le_trans aK (Nat.le_trans pB.size p.size)) aO.out
   have aB:=Qh Q;have D:=Qh t;clear Q;clear t;clear hU M hgi O ax hq au T E X;go_wp2_with fail;rw [←HU.out];have B:Pu U U.drew:=(Pu.refl U).drew;have d0:U.cell? ⟨wr.heap.size,0,none⟩=some (.string ⟨k.toArray⟩):=K.cell 0;have d1:U.cell? ⟨wr.heap.size,1,none⟩=some (.bool qg):=K.cell 1;have d2:U.cell? ⟨wr.heap.size,1+1,none⟩=some (.slice qA qn qc):=K.cell 2;go_region_with (first
    | (go_at_call 56;refine(D.out _ B).mono ?_;rintro e u2 ⟨rfl,p9⟩;replace B:=B.trans p9;replace d0:=(K.pu B).cell 0;replace d1:=(K.pu B).cell 1;replace d2:=(K.pu B).cell 2)
    | (go_at_call 65;refine(aB.out _ B).mono ?_;rintro e u3 ⟨⟨x5,x6,rfl⟩,aR,aw⟩))
   all_goals
    have aM:=(ak.pu B).step aw (fun j hj=>hj);clear ak B aw am;go_wp2;go_roundw
    case rel=>exact⟨i+1,by omega,rfl,aR,aM⟩
    case measure=>simp [intOf];omega
  ·obtain rfl:i=I:=by omega
   have aN:fs.take i=fs:=List.take_of_length_le (by rw [←R.1];omega);rw [aN]at T;have aj:Pu w wr:=PW.step E (fun j hj=>by omega);have N:∃C F H:ByteArray,C=⟨(zcr fs).toArray⟩∧F=⟨(za7 rest).toArray⟩∧H=⟨(zy rest fs).toArray⟩∧(∀V,(Op.stringOp .add C F).run Tryz.prog V= .ok (.string H) V):=by refine⟨_,_,_,rfl,rfl,rfl,fun V=>?_⟩;have bs:=Y.out.2.2;have aF:=zgc Y.out.1;rw [show E4=4000000000 from rfl]at aF;rw [run_string_add_sum V _ _ (by simp [ByteArray.size];omega),ByteArray.mk_append_mk];rfl
   obtain⟨C,F,H,P,e1,e2,a1⟩:=N;have J:=Qh (AI P (AI e1 e2));clear P e1 e2;have d0:wr.cell? ⟨w.heap.size,0,none⟩=some (.bool g):=X.cell 0;have d1:wr.cell? ⟨w.heap.size,1,none⟩=some (.slice A n c):=X.cell 1;have aA:w.heap.size+1≤wr.heap.size:=by omega
   have o:Below (w.heap.size+1) wr wr.drew:=⟨rfl,rfl,rfl,Nat.le_refl _,fun k hk=>rfl⟩
   have B:Pu wr wr.drew:=(Pu.refl wr).drew;have t:∀V,Below (w.heap.size+1) wr V→Calls Tryz.prog 56 #[.agg #[.bool g,.slice A n c]] V fun e w'=>e= .returned (.string F)∧Pu V w':=fun V p=>by rw [J.out.2.1];exact zfJ _ rest _ (Hz.out.pu (aj.step (S:=fun j=>w.heap.size+1≤j) ⟨p.os,p.tape,p.output,p.size,fun k hk hn=>p.block k (by omega)⟩ (fun j hj=>by omega))) Y.out.1
   have Z:∀V,Pu wr V→Calls Tryz.prog 66 #[.pointer (some ⟨w.heap.size+1,0,none⟩)] V fun e w'=>e= .returned (.string C)∧Below (w.heap.size+1) V w':=fun V p=>by rw [J.out.1];exact Tryz.Builder_String_any _ _ _ _ (T.pu p).is (Nat.le_trans (by omega) p.size)
   have D:=Qh (AI t Z);clear t Z T E;go_wp2_with fail;go_region_with (first
    | (go_at_call 66;refine(D.out.2 _ B).mono ?_;rintro e u2 ⟨rfl,p9⟩;replace o:=o.trans p9;replace d0:=zk4 o X (by omega) 0;replace d1:=zk4 o X (by omega) 1)
    | (go_at_call 56;refine(D.out.1 _ o).mono ?_;rintro e u3 ⟨rfl,aW⟩;replace o:=zrJ o aW aA))
   all_goals
    go_wp2;go_ret;exact⟨congrArg (fun b=>Ending.returned (.string b)) J.out.2.2,aj.step (S:=fun j=>w.heap.size+1≤j) ⟨o.os,o.tape,o.output,o.size,fun k hk hn=>o.block k (by omega)⟩ (fun j hj=>by omega)⟩
end
section
open Go.RowKit
theorem zr1{U V:World}{w i t x:Addr}{v j k o:Value}(y:U.cell? w=some v)(z:U.cell? i=some j)(B:U.cell? t=some k)(C:U.cell? x=some o)(p:Pu U V):V.cell? w=some v∧V.cell? i=some j∧V.cell? t=some k∧V.cell? x=some o:=⟨p.cellv y,p.cellv z,p.cellv B,p.cellv C⟩
def exM(r:Int)(fs:List (Key×Int))(n:Int):Bool:=decide (r%n=0)&&fs.all fun f=>decide (f.2%n=0)
theorem zoM{r n:Int}{fs:List (Key×Int)}{i:Nat}{f:Key×Int}(h:fs[i]?=some f):exM r (fs.take (i+1)) n=(exM r (fs.take i) n&&decide (f.2%n=0)):=by unfold exM;rw [List.take_add_one,h,List.all_append,Bool.and_assoc];simp
theorem zna{n:Int}{fs:List (Key×Int)}(x:zx fs){i:Nat}{k:Key}{z:Int}(h:fs[i]?=some (k,z)):zbI (fs.take (i+1)) n=zau (zbI (fs.take i) n) k (z/n):=by
 rw [zjK]
 ·unfold zbI;rw [List.take_add_one,h,List.map_append];rfl
 ·intro p w;obtain⟨q,v,rfl⟩:=List.mem_map.1 w;obtain⟨j,o⟩:=List.getElem?_of_mem v;rw [List.getElem?_take]at o;split at o
  ·rename_i t;exact zeG x o h t
  ·cases o
theorem zgG(z:Int):(z.sign==0)=decide (z=0):=by rw [Bool.eq_iff_iff];simp
structure zrg(u V:World)(base P b:Nat)(g:Bool)(A:Option Addr)(n c:Nat):Prop where
 blk:Blk V P 33 #[.bool g,.slice A n c,.pointer (some ⟨b,0,none⟩)]
 mo:MOZ V base b none []
 pu:Pu u V
 ge:u.heap.size≤P
theorem zqw{p:World→Nat→Prop}{V:World}{P:Nat}(h:p V P):∃Z Q,Z=V∧Q=P∧p Z Q:=⟨V,P,rfl,rfl,h⟩
theorem MOZ.ne_blk{w:World}{base b a:Nat}{r:Option Nat}{L:List (Key×Part)}{j:Array Value}(h:MOZ w base b r L)(k:Blk w a 33 j):a≠b:=by obtain⟨A,n,c,i,_⟩:=h;exact k.ne_ i (by decide)
theorem MOZ.ne_any{w:World}{base b a:Nat}{t:TypeId}{r:Option Nat}{L:List (Key×Part)}{o:Array Value}(h:MOZ w base b r L)(k:Blk w a t o)(j:t≠126):a≠b:=by obtain⟨A,n,c,i,_⟩:=h;exact k.ne_ i j
theorem zmO{u v:World}{base b:Nat}{g:Bool}{A:Option Addr}{n c:Nat}(i:Pu u v)(j:MOZ v base b none []):zrg u (v.alloc (.cells #[.bool g,.slice A n c,.pointer (some ⟨b,0,none⟩)] 33)) base v.heap.size b g A n c:=⟨Blk.new _ _ _,j.pu ((Pu.refl _).alloc _),i.alloc _,i.size⟩
theorem zmX{u v:World}{base b a:Nat}{g:Bool}{A:Option Addr}{n c:Nat}(z:Pu u v)(t:MOZ v base b none [])(k:Blk v a 33 #[.bool false,.slice none 0 0,.pointer none])(y:u.heap.size≤a):zrg u (((v.setCell ⟨a,0,none⟩ (.bool g)).setCell ⟨a,1,none⟩ (.slice A n c)).setCell ⟨a,2,none⟩ (.pointer (some ⟨b,0,none⟩))) base a b g A n c:=by
 obtain⟨x,o,B⟩:=zcf k g A n c (some ⟨b,0,none⟩);have p:=t.ne_blk k;refine⟨x,t.fr o (fun e=>p (by
  have j:b=a:=e;exact j.symm)) (fun g w=>by cases w),z.step o (fun i e=>by
  have j:i=a:=e;omega),y⟩
theorem zhd(v1 v2:Value)(r n:Int)(fs:List (Key×Int))(w:World)(h1:TM w v1 r fs)(h2:ZR w v2 n)(hn:n≠0) (hr:r.natAbs<4294967296^E3) (hg:∀g∈fs,g.2.natAbs<4294967296^E3) (ap:n.natAbs<4294967296^E3) (a8:fs.length<300):Calls Tryz.prog 150 #[v1,v2] w fun e w'=>∃g A n' c m code,e= .returned (.tuple #[.agg #[.bool g,.slice A n' c,.pointer m],.int .i64 code])∧(exM r fs n=true→code=0∧TMO w' w.heap.size (.agg #[.bool g,.slice A n' c,.pointer m]) (r/n) (zbI fs n))∧(exM r fs n=false→code=12)∧Pu w w':=by
 have ak:=h1.rise.1;obtain⟨g1,A1,n1,c1,m1,rfl⟩:=h1.shape;obtain⟨g2,A2,n2,c2,rfl⟩:=h2.shape2;obtain⟨W,hWe⟩:∃W,W=((w.alloc (.cells #[.bool g1,.slice A1 n1 c1,.pointer m1] 33)).alloc (.cells #[.bool g2,.slice A2 n2 c2] 30)).alloc (.cells #[.bool false,.slice none 0 0,.pointer none] 33):=⟨_,rfl⟩
 have pW:Pu w W:=by rw [hWe];exact(((Pu.refl w).alloc _).alloc _).alloc _
 have k1:Blk W w.heap.size 33 #[.bool g1,.slice A1 n1 c1,.pointer m1]:=by rw [hWe];exact((Blk.new w _ _).alloc _).alloc _
 have k2:Blk W (w.heap.size+1) 30 #[.bool g2,.slice A2 n2 c2]:=by rw [hWe];exact(Blk.at_new _ _ _ (by simp)).alloc _
 have k3:Blk W (w.heap.size+2) 33 #[.bool false,.slice none 0 0,.pointer none]:=by rw [hWe];exact Blk.at_new _ _ _ (by simp)
 have d4:W.heap.size=w.heap.size+3:=by rw [hWe];simp
 have up:∀{z:Int},z.natAbs<4294967296^E3→z.natAbs<4294967296^E4:=fun {z} h=>zC (n:=z.natAbs) (a:=E3) (b:=E4) h (by decide);have H1:=Qh (h1.pu pW);have H2:=Qh (h2.pu pW);have bB:∀(V:World) (v:Value) (z:Int),Pu W V→ZR V v z→z.natAbs<4294967296^E3→Calls Tryz.prog 154 #[v,.agg #[.bool g2,.slice A2 n2 c2]] V fun e w'=>∃v3 v4,e= .returned (.tuple #[v3,v4,.int .i64 0])∧ZR w' v3 (z/n)∧ZR w' v4 (z%n)∧Pu V w':=fun V v z p hz hb=>zbB _ _ z n V hz (H2.out.pu p) (up hb) (up ap) hn (zgN _ _ (by omega));have bt:∀(V:World) (v:Value) (z:Int),ZR V v (z%n)→Calls Tryz.prog 15 #[v] V fun e w'=>e= .returned (.int .i64 (z%n).sign)∧Pu V w':=fun V v z hz=>zaN _ _ V hz (up (Nat.lt_of_le_of_lt (by have:=Int.emod_nonneg z hn;have:=Int.emod_lt z hn;omega) ap));have bq:∀V,Pu W V→Calls Tryz.prog 15 #[.agg #[.bool g2,.slice A2 n2 c2]] V fun e w'=>e= .returned (.int .i64 n.sign)∧Pu V w':=fun V p=>zaN _ _ V (H2.out.pu p) (up ap);have d6:(n.sign==0)=false:=by rw [zgG];simpa using hn
 have HD:=Qh (AI bB (AI bt bq));have cC:=Qh hWe;have HR:=Qh ak;have HH:=Qh (AI hr (AI hg a8));clear hWe h1 h2 bB bt bq ak up hr hg ap a8;go_enter Tryz.func150,Tryz.ntmps150;go_wp2_with fail;rw [←cC.out];refine(HD.out.2.2 _ (Pu.refl _)).mono ?_;rintro e w1 ⟨rfl,p1⟩;obtain⟨c0,c1⟩:=(k1.pu p1).c2_;obtain⟨e0,e1⟩:=(k2.pu p1).c2_;generalize n.sign=sg at*
 go_wp2_with fail;refine(HD.out.1 _ _ r p1 (H1.out.rest_.pu p1) HH.out.1).mono ?_;rintro e C ⟨v3,v4,rfl,hq,hm,F⟩;obtain⟨N,M,nq,K,rfl⟩:=hq.shape2;obtain⟨gm,Am,nm,cm,rfl⟩:=hm.shape2;have P2:=p1.trans F;obtain⟨U,hU⟩:∃U,U=(C.alloc (.cells #[.bool N,.slice M nq K] 30)).alloc (.cells #[.bool gm,.slice Am nm cm] 30):=⟨_,rfl⟩
 have pU:Pu C U:=by rw [hU];exact((Pu.refl _).alloc _).alloc _
 have kq:Blk U C.heap.size 30 #[.bool N,.slice M nq K]:=by rw [hU];exact(Blk.new C _ _).alloc _
 have km:Blk U (C.heap.size+1) 30 #[.bool gm,.slice Am nm cm]:=by rw [hU];exact Blk.at_new _ _ _ (by simp)
 have dy:C.heap.size+2≤U.heap.size:=by rw [hU];simp
 have bF:=hq.pu pU;have bz:=hm.pu pU;have PU:=P2.trans pU;have HU:=Qh hU;clear hU c0 c1 e0 e1 hq hm p1 F;go_wp2_with fail;rw [←HU.out];have d0:U.cell? ⟨C.heap.size,0,none⟩=some (.bool N):=kq.cell 0;have d1:U.cell? ⟨C.heap.size,1,none⟩=some (.slice M nq K):=kq.cell 1;have d2:U.cell? ⟨C.heap.size+1,0,none⟩=some (.bool gm):=km.cell 0;have d3:U.cell? ⟨C.heap.size+1,1,none⟩=some (.slice Am nm cm):=km.cell 1;have D:Pu U U.drew:=(Pu.refl U).drew;go_region_held3 (fun t=>t.cell? ⟨C.heap.size,0,none⟩=some (.bool N)∧t.cell? ⟨C.heap.size,1,none⟩=some (.slice M nq K)∧t.cell? ⟨C.heap.size+1,0,none⟩=some (.bool gm)∧t.cell? ⟨C.heap.size+1,1,none⟩=some (.slice Am nm cm))
  (first|exact zr1 d0 d1 d2 d3 (by repeat' (first|with_reducible exact D|with_reducible exact Pu.refl _|with_reducible refine Pu.drew ?_|with_reducible refine Pu.alloc ?_ _|with_reducible refine Pu.setCell ?_ ?_ _| (dsimp only;omega)))|go_keep)
  (first
   | (go_at_call 47;refine(zrr _).mono ?_;rintro e u2 ⟨b,rfl,I,p9⟩;with_reducible (first| (have bA:=(Blk.new U 33 #[.bool false,.slice none 0 0,.pointer none]).drew.pu p9)| (have bA:=(Blk.new U.drew 33 #[.bool false,.slice none 0 0,.pointer none]).pu p9)|skip);replace D:=Pu.trans (a:=U) (by with_reducible first|exact D|exact D.alloc _|exact Pu.drew (Pu.alloc (Pu.refl _) _)) p9;have z12:=D.size;(try(have ka0:=bA.cell 0;have ka1:=bA.cell 1;have ka2:=bA.cell 2;have kf0:=bA.frozen 0;have kf1:=bA.frozen 1;have kf2:=bA.frozen 2)))
   | (go_at_call 15;refine(HD.out.2.1 _ _ r (bz.pu (by with_reducible first|exact D|exact D.alloc _))).mono ?_;rintro e u3 ⟨rfl,S⟩;with_reducible (first| (replace bA:=bA.pu S)| (have bA:=(Blk.new u2 33 #[.bool false,.slice none 0 0,.pointer none]).pu S)|skip);replace D:=Pu.trans (a:=U) (by with_reducible first|exact D|exact D.alloc _) S;have z13:=D.size;with_reducible (first| (replace I:=I.pu S)| (replace I:=(I.pu ((Pu.refl _).alloc _)).pu S));(try clear ka0 ka1 ka2 kf0 kf1 kf2);(try(have ka0:=bA.cell 0;have ka1:=bA.cell 1;have ka2:=bA.cell 2;have kf0:=bA.frozen 0;have kf1:=bA.frozen 1;have kf2:=bA.frozen 2))))
 all_goals
  first
   |have O:=zmX (g:=N) (A:=M) (n:=nq) (c:=K) D (I.base_ (base':=U.heap.size) (by first|exact Nat.le_refl _| (simp;done)| (simp;omega))) bA (by first|exact Nat.le_refl _|omega)
   |have O:=zmO (g:=N) (A:=M) (n:=nq) (c:=K) D (I.base_ (base':=U.heap.size) (by first|exact Nat.le_refl _| (simp;done)| (simp;omega)))
  obtain⟨Z,P,hZ,b5,O⟩:=zqw (p:=fun V P=>zrg U V U.heap.size P b N M nq K) O;rw [←hZ,←b5];have PZ:=PU.trans O.pu;have j1:=k1.pu PZ;have j2:=k2.pu PZ;have j3:=k3.pu PZ;have jP:=O.blk;have jm:=O.mo;have jz:=bF.pu O.pu;have dv:=O.ge;have bw:((r%n).sign==0)=exM r (fs.take 0) n:=by rw [zgG];simp [exM]
  have dq:=jm.lt;rw [bw];clear bw O hZ b5 D d0 d1 d2 d3 bz bF kq km k1 k2 k3 I
  (try clear bA)
  have bC:=zca _ r fs Z (H1.out.pu PZ);obtain⟨b0,b1,b2⟩:=j1.c3_;generalize hxx:exM r (fs.take 0) n=x0;have cg:=Qh hxx;clear hxx;go_wp2_with fail;refine bC.mono ?_;rintro e Wp ⟨A4,n4,c4,LG,rfl,b4,dA,aD,cz,F⟩;have dx:LG.length=n4:=ziT b4;have PW:=PZ.trans F;have l1:=j1.pu F;have l2:=j2.pu F;have l3:=j3.pu F;have lP:=jP.pu F;have lm:=jm.pu F;have lz:=jz.pu F;have du:=F.size;have d8:=PW.size;clear b0 b1 b2 bC j1 j2 j3 jP jm jz F;go_wp2_with fail
  go_loopw [10,37] (fun xv iv ws=>∃(i:Nat) (r':Option Nat) (L:List (Key×Part)) (x:Bool),i≤n4∧xv= .bool x∧x=exM r (fs.take i) n∧iv= .int .i64 (i:Int)∧MOZ ws U.heap.size b r' L∧zH ws L (zbI (fs.take i) n)∧(r'=none∨∃g,r'=some g∧Wp.heap.size≤g)∧Fr (fun j=>j=b) Wp ws) (fun _ iv _=>n4 - (intOf iv).toNat)
  case atStart=>exact⟨0,none,[],x0,Nat.zero_le _,rfl,cg.out.symm,rfl,lm,zH.nil _,.inl rfl,Fr.refl _ _⟩
  case round=>
   obtain⟨i,r',L,x,hi,rfl,hx,rfl,H,y,aq,E⟩:=hrel;have d9:L.length≤i:=by have:=y.1;simp [zbI]at this;omega
   have cX:=lm.ne_blk lP;have bs:=lm.ne_blk l3;have au:Sl wr 3 A4 n4 c4 (kps vcZ LG):=b4.fr E (fun _ b' off e hS=>by have h5:=cz b' off e;omega);have Hx:=Qh hx;have bp:=lm.typed;have mP:=lP.fr E cX;have m2:=l2.fr E (lm.ne_any l2 (by decide));have m3:=l3.fr E bs;have mz:=lz.frT E (fun g hg=>bp g (.inl hg));have d5:=E.size;clear hx;by_cases dw:i<n4
   ·obtain⟨p,hp⟩:∃p,LG[i]?=some p:=⟨_,List.getElem?_eq_getElem (by omega)⟩
    obtain⟨gg,hgi⟩:∃g,fs[i]?=some g:=⟨_,List.getElem?_eq_getElem (by rw [←aD.1];omega)⟩
    obtain⟨k,qg,qA,qn,qc⟩:=p;obtain⟨k',z⟩:=gg;obtain⟨ek,aE⟩:=aD.2 i _ _ hp hgi;dsimp only at ek aE;subst ek;obtain⟨bb,off,rfl,d7,cH,x1,x2⟩:=atZ au hp;have b6:=aE.frT E (fun g hg=>bp g (.inl hg));have co:=Qh (HH.out.2.1 _ (List.mem_of_getElem? hgi));have b7:=Qh (zoM (r:=r) (n:=n) hgi);have cn:=Qh (zna (n:=n) HR.out hgi);have dB:IntKind.i64.wrap ((i:Int)+1)=(i:Int)+1:=IntWalk.i64_in _ (by omega);have pA:Pu wr (wr.alloc (.cells #[.string ⟨k.toArray⟩,.bool qg,.slice qA qn qc] 119)):=(Pu.refl _).alloc _;have kA:Blk (wr.alloc (.cells #[.string ⟨k.toArray⟩,.bool qg,.slice qA qn qc] 119)) wr.heap.size 119 #[.string ⟨k.toArray⟩,.bool qg,.slice qA qn qc]:=Blk.new _ _ _;obtain⟨f0,f1⟩:=(m2.pu pA).c2_;have ck:Pu W wr:=PW.step E (fun j o=>by have e':j=b:=o;have:=PU.size;omega);have b9:=E;clear hp hgi aE au E;go_wp2_with fail;refine(HD.out.1 _ _ z (ck.trans pA) (b6.pu pA) co.out).mono ?_;rintro e u1 ⟨v5,v6,rfl,h5,h6,q1⟩;obtain⟨X,A5,T,c5,rfl⟩:=h5.shape2;obtain⟨g6,A6,m6,c6,rfl⟩:=h6.shape2;obtain⟨V,hV⟩:∃V,V=(u1.alloc (.cells #[.bool X,.slice A5 T c5] 30)).alloc (.cells #[.bool g6,.slice A6 m6 c6] 30):=⟨_,rfl⟩
    have pV:Pu u1 V:=by rw [hV];exact((Pu.refl _).alloc _).alloc _
    have kq:Blk V u1.heap.size 30 #[.bool X,.slice A5 T c5]:=by rw [hV];exact(Blk.new u1 _ _).alloc _
    have km:Blk V (u1.heap.size+1) 30 #[.bool g6,.slice A6 m6 c6]:=by rw [hV];exact Blk.at_new _ _ _ (by simp)
    have Q:=(pA.trans q1).trans pV;have bE:=h5.pu pV;have b8:=h6.pu pV;have aQ:=(kA.pu q1).pu pV;have aJ:=mP.pu Q;have Y:=H.pu Q;have aK:=y.pu Q;have aI:=Qh hV;obtain⟨e0,e1⟩:=km.c2_;obtain⟨e2,e3⟩:=kq.c2_;have e4:=aQ.cell 0;have e5:=aJ.cell 2;have dz:=Q.size;rw [hV]at e0 e1 e2 e3 e4 e5;clear hV f0 f1 h5 h6 kA y H m2 mP cH x1 x2 b6;have bu:=b9.pu Q;have am:∀(u4 u5:World) (B:Option Nat),Pu V u4→Fr (fun j=>j=b∨r'=some j) u4 u5→(B=r'∨∃g,B=some g∧u4.heap.size≤g)→Fr (fun j=>j=b) Wp u5∧(B=none∨∃g,B=some g∧Wp.heap.size≤g):=fun u4 u5 B p f h=>by
     refine⟨(bu.pu p).step f (fun j o=>?_),?_⟩
     ·rcases o with o|o
      ·exact .inl o
      ·rcases aq with e|⟨g',e,bD⟩
       ·rw [e]at o
        cases o
       ·rw [e]at o;have e':g'=j:=by injection o
        exact .inr (by omega)
     ·rcases h with e|⟨g',e,bD⟩
      ·rw [e];exact aq
      ·have:=p.size;exact .inr ⟨g',e,by omega⟩
    have bh:=Qh am;have aH:∀u4,Pu V u4→Calls Tryz.prog 21 #[.pointer (some ⟨b,0,none⟩),.string ⟨k.toArray⟩,.agg #[.bool X,.slice A5 T c5]] u4 fun e w'=>e= .returned (.bool (!there L k))∧∃B,MOZ w' U.heap.size b B (zau L k (X,A5,T,c5))∧zH w' (zau L k (X,A5,T,c5)) (zbI (fs.take (i+1)) n)∧Fr (fun j=>j=b) Wp w'∧(B=none∨∃g,B=some g∧Wp.heap.size≤g):=fun u4 p=>by refine(zp7 U.heap.size b r' L k (X,A5,T,c5) u4 (Y.pu p) (by omega)).mono ?_;rintro e w' ⟨e1,B,G,J,f8⟩;obtain⟨a1,a2⟩:=bh.out _ _ _ p f8 J;refine⟨e1,B,G,?_,a1,a2⟩;rw [cn.out];exact(zH.put (k:=k) (q:=(X,A5,T,c5)) (aK.pu p) (bE.pu p)).frT f8 (Y.pu p).typed
    have aC:=HD.out.2.1 V _ z b8;have aM:=Qh aC;have aL:=Qh aH;have Kq:=Qh (AI kq (AI aQ aJ));clear aC aH am bu b9 bE b8 aK Y kq km aQ aJ aq;rcases x with _|_
    ·have ao:=Qh (aL.out V (Pu.refl _));rw [aI.out]at ao;have aR:Hid (exM r (fs.take (i+1)) n=false):=Qh (by rw [b7.out,←Hx.out];rfl);go_wp2_with fail;refine ao.out.mono ?_;rintro e u5 ⟨rfl,B,G,ah,a7,J⟩;go_wp2;go_roundw
     case rel=>exact⟨i+1,B,_,false,by omega,rfl,aR.out.symm,rfl,G,ah,J,a7⟩
     case measure=>simp [intOf];omega
    ·rw [aI.out]at aM;have aR:Hid (exM r (fs.take (i+1)) n=((z%n).sign==0)):=Qh (by rw [b7.out,←Hx.out,zgG];rfl);go_wp2_with fail;refine aM.out.mono ?_;rintro e u4 ⟨rfl,q4⟩;rw [←aI.out]at q4;obtain⟨y0,y1⟩:=(Kq.out.1.pu q4).c2_;have y2:=(Kq.out.2.1.pu q4).cell 0;have y3:=(Kq.out.2.2.pu q4).cell 2;clear e0 e1 e2 e3 e4 e5;go_wp2_with fail;refine(aL.out _ q4).mono ?_;rintro e u5 ⟨rfl,B,G,ah,a7,J⟩;go_wp2;go_roundw
     case rel=>exact⟨i+1,B,_,((z%n).sign==0),by omega,rfl,aR.out.symm,rfl,G,ah,J,a7⟩
     case measure=>simp [intOf];omega
   ·obtain rfl:i=n4:=by omega
    have cx:fs.take i=fs:=List.take_of_length_le (by rw [←aD.1];omega);rw [cx]at y Hx;obtain⟨a0,a1,a2⟩:=m3.c3_;obtain⟨z0,z1,z2⟩:=m3.z3_;obtain⟨b0,b1,b2⟩:=mP.c3_;have aj:Pu w wr:=(pW.trans PW).step E (fun j o=>by have e':j=b:=o;have:=PU.size;omega);have bg:w.heap.size≤U.heap.size:=by have:=PU.size;omega
    rcases x with _|_
    ·obtain⟨kB,R,tB⟩:=zcf m3 false none 0 0 none;obtain⟨r0,r1,r2⟩:=kB.c3_;have HF:=Qh (aj.step R (fun j o=>by
      have e':j=w.heap.size+2:=o;omega))
     clear kB R tB aj y H E m2 m3 mP mz au;go_wp2;exact bodyPost_ret (v:= .tuple #[.agg #[.bool false,.slice none 0 0,.pointer none],.int .i64 12]) (by simp [results,Tryz.results150,go_sem,r0,r1,r2]) rfl ⟨_,_,_,_,_,_,rfl,fun e=>(by rw [←Hx.out]at e;cases e),fun _=>rfl,HF.out⟩
    ·obtain⟨kB,R,tB⟩:=zcf m3 N M nq K (some ⟨b,0,none⟩);obtain⟨r0,r1,r2⟩:=kB.c3_;have HF:=Qh (AI (aj.step R (fun j o=>by
      have e':j=w.heap.size+2:=o;omega)) (AI (mz.frT R tB) (AI ((H.fr R (fun e=>bs (by
       have e':b=w.heap.size+2:=e;exact e'.symm)) (fun j o e=>by
       rcases aq with h|⟨g',h,bD⟩
       ·rw [h]at o
        cases o
       ·rw [h]at o;have e1:g'=j:=by injection o
        have e':j=w.heap.size+2:=e;have:=PU.size;omega)).base_ bg) (y.frT R tB))))
     clear kB R tB aj y H E m2 m3 mP mz au;go_wp2;exact bodyPost_ret (v:= .tuple #[.agg #[.bool N,.slice M nq K,.pointer (some ⟨b,0,none⟩)],.int .i64 0]) (by simp [results,Tryz.results150,go_sem,r0,r1,r2]) rfl ⟨_,_,_,_,_,_,rfl,fun e=>⟨rfl,⟨N,M,nq,K,b,_,_,rfl,HF.out.2.1,HF.out.2.2.1,HF.out.2.2.2⟩⟩,fun e=>(by rw [←Hx.out]at e;cases e),HF.out.1⟩
end
end Go.Proofs.YtckfnbckoclhpaaGreatDoor
