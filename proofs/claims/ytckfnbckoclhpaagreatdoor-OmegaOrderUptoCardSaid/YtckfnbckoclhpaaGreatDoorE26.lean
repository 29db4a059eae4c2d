/- Sum. -/
import Derived.Test.YtckfnbckoclhpaaGreatDoorE24
import Derived.Test.YtckfnbckoclhpaaGreatDoorE25
import Derived.Test.YtckfnbckoclhpaaGreatDoorCS
import Derived.Test.YtckfnbckoclhpaaGreatDoorCT
import Derived.Deep.RegionHeld3
import Derived.BigRegion
import Derived.Deep.QuietTactic
namespace Go.Proofs.YtckfnbckoclhpaaGreatDoor
set_option linter.unusedVariables false
set_option linter.unusedSimpArgs false
set_option maxRecDepth 100000
set_option maxHeartbeats 4000000
section
open Go.RowKit
theorem zm0(v:Value)(z:Int)(w:World)(h:ZR w v z):Calls Tryz.prog 32 #[v] w fun e w'=>∃g A n c,e= .returned (.agg #[.bool g,.slice A n c,.pointer none])∧ZR w' (.agg #[.bool g,.slice A n c]) z∧Pu w w':=by obtain⟨g,A,n,c,rfl⟩:=h.shape2;have H:=Qh h;clear h;go_enter Tryz.func32,Tryz.ntmps32;go_wp2;have k:Blk ((w.alloc (.cells #[.bool g,.slice A n c] 30)).alloc (.cells #[.bool g,.slice A n c,.pointer none] 33)) (w.heap.size+1) 33 #[.bool g,.slice A n c,.pointer none]:=Blk.at_new _ _ _ (by simp);have i:Pu w ((w.alloc (.cells #[.bool g,.slice A n c] 30)).alloc (.cells #[.bool g,.slice A n c,.pointer none] 33)):=((Pu.refl w).alloc _).alloc _;obtain⟨j,r1,r2⟩:=k.c3_;exact bodyPost_ret (v:= .agg #[.bool g,.slice A n c,.pointer none]) (by simp [results,Tryz.results32,go_sem,j,r1,r2]) rfl ⟨g,A,n,c,rfl,H.out.pu i,i⟩
def TMX(w:World)(lo:Nat)(v:Value)(rest:Int)(fs:List (Key×Int)):Prop:=(∃g A n c,v= .agg #[.bool g,.slice A n c,.pointer none]∧ZR w (.agg #[.bool g,.slice A n c]) rest∧fs= [])∨∃base,lo≤base∧TMO w base v rest fs
theorem TMX.tm{w:World}{lo:Nat}{v:Value}{rest:Int}{fs:List (Key×Int)}(h:TMX w lo v rest fs):TM w v rest fs:=by
 rcases h with⟨g,A,n,c,rfl,h,rfl⟩|⟨base,-,h⟩
 ·exact⟨g,A,n,c,none,rfl,h,.inl ⟨rfl,rfl⟩⟩
 ·exact h.tm
theorem TMX.frT{S:Nat→Prop}{w w':World}{lo:Nat}{v:Value}{rest:Int}{fs:List (Key×Int)}(h:TMX w lo v rest fs)(i:Fr S w w')(o:∀g,S g→g<lo)(j:∀g,S g→∃t cs fz,w.heap[g]?=some (.cells cs t fz)∧t≠169):TMX w' lo v rest fs:=by
 rcases h with⟨g,A,n,c,rfl,h,rfl⟩|⟨base,k,h⟩
 ·exact .inl ⟨g,A,n,c,rfl,h.frT i j,rfl⟩
 ·exact .inr ⟨base,k,h.frT i (fun g p=>Nat.lt_of_lt_of_le (o g p) k) j⟩
theorem zaJ{w:World}{b:Nat}{e j o k:TypeId}{i:Array Value}(C:Blk w b e i)(p:e≠j)(z:e≠o)(B:e≠k):∀g,g=b→∃t i fz,w.heap[g]?=some (.cells i t fz)∧t≠j∧t≠o∧t≠k:=fun g hg=>by subst hg;exact⟨_,_,_,C,p,z,B⟩
theorem TMX.pu{w w':World}{lo:Nat}{v:Value}{rest:Int}{fs:List (Key×Int)}(h:TMX w lo v rest fs)(p:Pu w w'):TMX w' lo v rest fs:=h.frT p (fun g i=>i.elim) (fun g i=>i.elim)
theorem TMX.lo_{w:World}{lo i:Nat}{v:Value}{rest:Int}{fs:List (Key×Int)}(h:TMX w lo v rest fs)(j:i≤lo):TMX w i v rest fs:=by
 rcases h with h|⟨base,k,h⟩
 ·exact .inl h
 ·exact .inr ⟨base,Nat.le_trans j k,h⟩
structure zrT(W Z wr:World)(b5 b6:Nat)(ps:List (Key×Int))(rest:Int)(i:Nat):Prop where
 pu:Pu W wr
 vars:∃g A n c m An nx cn Af cf s A2 n2 c2,Blk wr b5 33 #[.bool g,.slice A n c,.pointer m]∧Blk wr b6 56 #[.slice An nx cn,.slice Af nx cf,.int .i64 s,.slice A2 n2 c2]∧TMX wr Z.heap.size (.agg #[.bool g,.slice A n c,.pointer m]) rest (zh9 (ps.take i))∧TR wr An nx cn Af cf ⟨s,A2,n2,c2⟩ (9223372036854775808+i*1099511627776)∧nx≤i
 size:Z.heap.size≤wr.heap.size
 all:∀p∈ps.take i,zcn p=true
theorem TR.le{w:World}{k:Option Addr}{n o:Nat}{p:Option Addr}{j:Nat}{r:RawZ}{B i:Nat}(h:TR w k n o p j r B)(t:B≤i):TR w k n o p j r i:=by obtain⟨E,⟨L,I,G⟩,z,C,H⟩:=h;exact⟨E,⟨L,I,fun q D=>(G q D).le t⟩,z.le t,C,H⟩
def HTq(w:World)(b:Nat):Prop:=∃g A n c m,Blk w b 33 #[.bool g,.slice A n c,.pointer m]
def NT(V u u':World):Prop:=Fr (fun b=>V.heap.size≤b∧HTq u b) u u'
theorem NT.typed{V u u':World}{e:TypeId}(i:33≠e):∀g,(V.heap.size≤g∧HTq u g)→∃t cs fz,u.heap[g]?=some (.cells cs t fz)∧t≠e:=fun g hg=>by obtain⟨_,x,A,n,c,m,h⟩:=hg;exact⟨_,_,_,h,i⟩
theorem Blk.nt{V u u':World}{b:Nat}{t:TypeId}{i:Array Value}(h:Blk u b t i)(o:t≠33)(j:NT V u u'):Blk u' b t i:=h.fr j fun p=>by obtain⟨_,x,A,n,c,m,k⟩:=p;exact h.ne_ k o rfl
structure OJ(V:World)(F:Nat→Value→World→Prop)(v a s:Nat)(L:Nat→Bool)(y:Nat→Value)(w:World):Prop where
 pu:Pu V w
 f:∀j,j≠a→L j=true→F j (y j) w
 al:L a=true→∃b,y a=ptr b∧V.heap.size≤b∧HTq w b
 st:L s=true→L v=true∧L a=true∧∃b g A n c m,y a=ptr b∧y v= .agg #[.bool g,.slice A n c,.pointer m]∧Blk w b 33 #[.bool g,.slice A n c,.pointer m]
section
variable{V w w':World}{F:Nat→Value→World→Prop}{v a s:Nat}{L:Nat→Bool}{y:Nat→Value}{x:Value}
theorem OJ.start(h:Pu V w):OJ V F v a s (fun _=>false) y w:=by
 constructor
 ·exact h
 ·intro j _ h
  cases h
 all_goals
  intro h
  cases h
theorem OJ.keep(h:OJ V F v a s L y w)(O:∀j x u u',F j x u→NT V u u'→F j x u')(k:Nat)(N:L k=false)(H:k≠s)(C:Pu w w')(K:k≠a→F k x w')(M:k=a→x=ptr w.heap.size∧HTq w' w.heap.size):OJ V F v a s (zeg L k) (upd y k x) w':=by
 have o:∀j,j≠k→upd y k x j=y j:=fun j i=>zcg i;have E:upd y k x k=x:=zby y k x;have p:∀j,j≠k→zeg L k j=true→L j=true:=fun j i h=>by rwa [zV i]at h
 have up:∀j,L j=true→zeg L k j=true∧j≠k:=fun j i=>by
  have D:j≠k:=fun e=>by rw [e,N]at i;cases i
  exact⟨by rw [zV D];exact i,D⟩
 constructor
 ·exact h.pu.trans C
 ·intro j i t;by_cases e:j=k
  ·subst e;rw [E];exact K i
  ·rw [o j e];exact O j _ _ _ (h.f j i (p j e t)) C.fr
 ·intro t;by_cases e:a=k
  ·obtain⟨z,B⟩:=M e.symm;exact⟨_,by rw [e,E];exact z,h.pu.size,B⟩
  ·obtain⟨b,z,B,g,A,n,c,m,G⟩:=h.al (p _ e t);exact⟨b,by rw [o _ e];exact z,B,g,A,n,c,m,G.pu C⟩
 ·intro t;obtain⟨z,B,b,g,A,n,c,m,G,J,I⟩:=h.st (p _ H.symm t);obtain⟨u1,u2⟩:=up _ z;obtain⟨u3,u4⟩:=up _ B;exact⟨u1,u3,b,g,A,n,c,m,by rw [o _ u4];exact G,by rw [o _ u2];exact J,I.pu C⟩
theorem OJ.store(h:OJ V F v a s L y w)(M:∀j x u u',F j x u→NT V u u'→F j x u')(K:L s=false)(t:a≠s)(fs:F s x w'){b:Nat}{g:Bool}{A:Option Addr}{n c:Nat}{m:Option Addr}(N:HTq w b)(p:V.heap.size≤b) (C:Fr (fun j=>j=b) w w') (E:Blk w' b 33 #[.bool g,.slice A n c,.pointer m]) (B:L v=true) (H:L a=true) (G:y a=ptr b) (I:y v= .agg #[.bool g,.slice A n c,.pointer m]):OJ V F v a s (zeg L s) (upd y s x) w':=by
 have o:∀j,j≠s→upd y s x j=y j:=fun j k=>zcg k;have z:∀j,j≠s→zeg L s j=true→L j=true:=fun j k h=>by rwa [zV k]at h
 have D:∀j,L j=true→j≠s:=fun j k e=>by rw [e,K]at k;cases k
 have up:∀j,L j=true→zeg L s j=true:=fun j k=>by rw [zV (D j k)];exact k
 constructor
 ·exact h.pu.step C fun j e=>by rw [e];exact p
 ·intro j k J;by_cases e:j=s
  ·subst e;rw [zby];exact fs
  ·rw [o j e];exact M j _ _ _ (h.f j k (z j e J)) (C.mono fun i _ e=>by rw [e];exact⟨p,N⟩)
 ·intro _;exact⟨b,by rw [o _ t];exact G,p,g,A,n,c,m,E⟩
 ·intro _;exact⟨up _ B,up _ H,b,g,A,n,c,m,by rw [o _ t];exact G,by rw [o _ (D _ B)];exact I,E⟩
end
theorem zox(ps:List (Key×Int))(rest:Int)(Ap:Option Addr)(cp:Nat)(w:World)(hs:Sl w 2 Ap ps.length cp (cat zfh ps)) (eE: -9223372036854775808≤rest) (dO:rest≤9223372036854775807) (hi:∀p∈ps,(-9223372036854775808≤p.2∧p.2≤9223372036854775807)∧p.1.length≤9223372036854775807) (hl:ps.length≤9223372036854775807):Calls Tryz.prog 16 #[.agg #[.slice Ap ps.length cp,.int .i64 rest]] w fun e w'=>∃v ok An n cn Af cf r fs,e= .returned (.tuple #[v,zjg An n cn Af n cf r,.bool ok])∧ok=okM ps rest∧TMX w' w.heap.size v rest fs∧(ok=true→fs=zh9 ps)∧n≤12∧TR w' An n cn Af cf r 9300000000000000000∧Pu w w':=by
 obtain⟨W,hWe⟩:∃W,W=((w.alloc (.cells #[.slice Ap ps.length cp,.int .i64 rest] 49)).alloc (.cells #[.bool false,.slice none 0 0,.pointer none] 33)).alloc (.cells #[.slice none 0 0,.slice none 0 0,.int .i64 0,.slice none 0 0] 56):=⟨_,rfl⟩
 have pW:Pu w W:=by rw [hWe];exact(((Pu.refl w).alloc _).alloc _).alloc _
 have k1:Blk W w.heap.size 49 #[.slice Ap ps.length cp,.int .i64 rest]:=by rw [hWe];exact((Blk.new w _ _).alloc _).alloc _
 have k2:Blk W (w.heap.size+1) 33 #[.bool false,.slice none 0 0,.pointer none]:=by rw [hWe];exact(Blk.at_new _ _ _ (by simp)).alloc _
 have k3:Blk W (w.heap.size+1+1) 56 #[.slice none 0 0,.slice none 0 0,.int .i64 0,.slice none 0 0]:=by rw [hWe];exact Blk.at_new _ _ _ (by simp)
 have bW:=Qh (show W.heap.size=w.heap.size+3 by rw [hWe];simp);have gC:=Qh hWe;have Hs:=Qh hs;have Hi:=Qh hi;clear hWe hs hi;go_enter Tryz.func16,Tryz.ntmps16;go_wp2_with fail;rw [←gC.out];rename_i K1 er;have cI:=Qh er;clear er;have d0:W.cell? ⟨w.heap.size,0,none⟩=some (.slice Ap ps.length cp):=k1.cell 0;have d1:W.cell? ⟨w.heap.size,1,none⟩=some (.int .i64 rest):=k1.cell 1;have dU:∀(x0 x7 x8 ek fb dZ eA e7 d9 dG eo eg ed eL eJ eu dI ef e9 ec es eG el ep eQ dQ dw eD dD en dT d2 dx fd eH d5 fc d8 d6 dH ew fa ee eU dK eV eS dF ej dR eN et dX ez ey dL eM eC eK dV eP dS dz dJ dN eW dy eT ea eX dE:Value) (T b6:Nat) (g:Bool) (A:Option Addr) (n c:Nat) (s:Int) (A2:Option Addr) (n2 c2:Nat) (Z:World),W.heap.size≤T→W.heap.size≤b6→T≠b6→Pu W Z→Blk Z T 33 #[.bool g,.slice A n c,.pointer none]→Blk Z b6 56 #[.slice none 0 0,.slice none 0 0,.int .i64 s,.slice A2 n2 c2]→ZR Z (.agg #[.bool g,.slice A n c]) rest→NZ_ Z 9223372036854775808 (.agg #[.int .i64 s,.slice A2 n2 c2])→K1 {tmps:=#[x0,ptr w.heap.size,ptr (w.heap.size+1),ptr (w.heap.size+1+1),.bool false,ptr T,ptr b6,x7,x8,.pointer (some ⟨w.heap.size,1,none⟩),.int .i64 rest,ek,.agg #[.bool g,.slice A n c,.pointer none],.pointer (some ⟨w.heap.size,1,none⟩),.int .i64 rest,fb,.agg #[.slice none 0 0,.slice none 0 0,.int .i64 s,.slice A2 n2 c2],dZ,eA,e7,d9,dG,eo,eg,ed,eL,eJ,eu,dI,ef,e9,ec,es,eG,el,ep,eQ,dQ,dw,eD,dD,en,dT,d2,dx,fd,eH,d5,fc,d8,d6,dH,ew,fa,ee,eU,dK,eV,eS,dF,ej,dR,eN,et,dX,ez,ey,dL,eM,eC,eK,dV,eP,dS,dz,dJ,dN,eW,dy,eT,ea,eX,dE],defers:=[]} Z:=by
  intro x0 x7 x8 ek fb dZ eA e7 d9 dG eo eg ed eL eJ eu dI ef e9 ec es eG el ep eQ dQ dw eD dD en dT d2 dx fd eH d5 fc d8 d6 dH ew fa ee eU dK eV eS dF ej dR eN et dX ez ey dL eM eC eK dV eP dS dz dJ dN eW dy eT ea eX dE T b6 g A n c s A2 n2 c2 Z cM cO b8 pZ kA O hz hx;refine cI.out _ _ ?_;clear cI;have aP:=pZ;have bf:w.heap.size≤Z.heap.size:=(pW.trans pZ).size;have gO:=kA.lt;have gV:=O.lt;have c4:TMX Z Z.heap.size (.agg #[.bool g,.slice A n c,.pointer none]) rest []:= .inl ⟨g,A,n,c,rfl,hz,rfl⟩;have cy:TR Z none 0 0 none 0 ⟨s,A2,n2,c2⟩ 9223372036854775808:=(TO.nil (base:=0) hx).tr;clear hz hx;have dW:Z.cell? ⟨w.heap.size,0,none⟩=some (.slice Ap ps.length cp):=pZ.cellv d0;have gj:Z.cell? ⟨w.heap.size,1,none⟩=some (.int .i64 rest):=pZ.cellv d1;have hd:((decide ((12:Int)<(ps.length:Int))=true∨decide ((12:Int)<(ps.length:Int))=false∧(decide (rest< -1099511627776)=true∨decide (rest< -1099511627776)=false∧decide (1099511627776<rest)=true))∧okM ps rest=false)∨(decide ((12:Int)<(ps.length:Int))=false∧decide (rest< -1099511627776)=false∧decide (1099511627776<rest)=false∧ps.length≤12∧ -1099511627776≤rest∧rest≤1099511627776):=by
   unfold okM inR;by_cases a:12<ps.length
   ·exact .inl ⟨.inl (decide_eq_true (by omega)),by rw [decide_eq_false (show¬ps.length≤12 by omega)];rfl⟩
   ·by_cases b:rest< -1099511627776
    ·exact .inl ⟨.inr ⟨decide_eq_false (by omega),.inl (decide_eq_true b)⟩,by rw [decide_eq_false (show¬ -1099511627776≤rest by omega)];simp⟩
    ·by_cases c:1099511627776<rest
     ·exact .inl ⟨.inr ⟨decide_eq_false (by omega),.inr ⟨decide_eq_false b,decide_eq_true c⟩⟩,by rw [decide_eq_false (show¬rest≤1099511627776 by omega)];simp⟩
     ·exact .inr ⟨decide_eq_false (by omega),decide_eq_false b,decide_eq_false c,by omega,by omega,by omega⟩
  rcases hd with⟨U,aC⟩|⟨cF,cK,dC,gI,gJ,hn⟩
  ·have aC:=Qh aC;rcases U with cF|⟨cF,cK|⟨cK,dC⟩⟩
   all_goals
    go_wp2_with fail;have E:=k2.pu pZ;have ap:=k3.pu pZ;obtain⟨a0,a1,a2⟩:=kA.c3_;obtain⟨cV,cD,cJ,bP⟩:=O.c4_;obtain⟨u0,u1,u2⟩:=E.c3_;obtain⟨dc,cE,db⟩:=E.z3_;have aY:=bW.out;obtain⟨av,G⟩:=zb1 E (.bool g) (.slice A n c) (.pointer none);have S:∀j,j=w.heap.size+1→j<Z.heap.size:=fun j H=>by have:=aP.size;omega
    have R:∀j,j=w.heap.size+1+1→j<Z.heap.size:=fun j H=>by have:=aP.size;omega
    have D:=ap.fr G (by omega);have ai:=O.fr G (by omega);clear aY;obtain⟨c5,cR,dd,cG⟩:=ai.c4_;obtain⟨t0,t1,t2,t3⟩:=D.c4_;obtain⟨cZ,cx,c0,cY⟩:=D.z4_;obtain⟨am,I⟩:=zdO D (.slice none 0 0) (.slice none 0 0) (.int .i64 s) (.slice A2 n2 c2);have ak:=av.fr I (by omega);have au:=((c4.frT G (fun g U=>S g U) (zh E (by decide))).frT I (fun g U=>R g U) (zh D (by decide))).pu (Pu.refl _).drew;have ao:=((cy.frT G (zaJ E (by decide) (by decide) (by decide))).frT I (zaJ D (by decide) (by decide) (by decide))).pu (Pu.refl _).drew;have aj:=(((pW.trans pZ).step G (fun j H=>by
      have e':j=w.heap.size+1:=H;omega)).step I (fun j H=>by
      have e':j=w.heap.size+1+1:=H;omega)).drew
    obtain⟨r0,r1,r2⟩:=(ak.pu (Pu.refl _).drew).c3_;obtain⟨q0,q1,q2,q3⟩:=(am.pu (Pu.refl _).drew).c4_;have HG:=Qh (AI au (AI ao aj));clear D am I ak au ao aj S R av G E ap ai;go_region;go_wp2;exact bodyPost_ret (v:= .tuple #[.agg #[.bool g,.slice A n c,.pointer none],.agg #[.slice none 0 0,.slice none 0 0,.int .i64 s,.slice A2 n2 c2],.bool false]) (by simp [results,Tryz.results16,go_sem,r0,r1,r2,q0,q1,q2,q3]) rfl ⟨_,false,none,0,0,none,0,⟨s,A2,n2,c2⟩,[],rfl,aC.out.symm,HG.out.1.lo_ bf,(fun h=>by cases h),Nat.zero_le _,HG.out.2.1.le (by omega),HG.out.2.2⟩
  go_wp2_with fail;clear cF cK dC
  go_loopw [36] (fun iv wr=>∃i:Nat,i≤ps.length∧iv= .int .i64 (i:Int)∧zrT W Z wr T b6 ps rest i) (fun iv _=>ps.length - (intOf iv).toNat)
  case atStart=>exact⟨0,Nat.zero_le _,rfl,⟨pZ,⟨g,A,n,c,none,none,0,0,none,0,s,A2,n2,c2,kA,O,by simpa [zh9]using c4,by simpa using cy,Nat.le_refl _⟩,Nat.le_refl _,fun p o=>by simp at o⟩⟩
  case round=>
   obtain⟨i,hi,rfl,hB⟩:=hrel;obtain⟨Q,⟨g1,A1,n1,c1,m1,An,nx,cn,Af,cf,s1,A3,n3,c3,kA,O,a6,aF,h5⟩,co,aX⟩:=hB;clear c4 cy dW gj;have dW:wr.cell? ⟨w.heap.size,0,none⟩=some (.slice Ap ps.length cp):=Q.cellv d0;by_cases gp:i<ps.length
   ·obtain⟨p,o⟩:∃p,ps[i]?=some p:=⟨_,List.getElem?_eq_getElem gp⟩
    have dA:=Hs.out.pu (pW.trans Q);obtain⟨bp,op,rfl,hA,da⟩:=zjH zdm (by decide) dA o;have x0:wr.cell? ⟨bp,op+i*2,none⟩=some (.string ⟨p.1.toArray⟩):=da 0 _ rfl;have x1:wr.cell? ⟨bp,op+i*2+1,none⟩=some (.int .i64 p.2):=da 1 _ rfl;obtain⟨J,C⟩:=p;dsimp only at x0 x1;obtain⟨⟨bJ,bD⟩,fe⟩:=Hi.out _ (List.mem_of_getElem? o);dsimp only at bJ bD fe;have Hp:=Qh o;obtain⟨X,hXe⟩:∃X,X=wr.alloc (.cells #[.string ⟨J.toArray⟩,.int .i64 C] 113):=⟨_,rfl⟩
    have pX:Pu wr X:=by rw [hXe];exact(Pu.refl wr).alloc _
    have k8:Blk X wr.heap.size 113 #[.string ⟨J.toArray⟩,.int .i64 C]:=by rw [hXe];exact Blk.new _ _ _
    have eO:=Qh hXe;clear hXe dA da o;replace kA:=kA.pu pX;replace O:=O.pu pX;replace a6:=a6.pu pX;replace aF:=aF.pu pX;replace Q:=Q.trans pX;have fD:Z.heap.size≤X.heap.size:=Nat.le_trans co pX.size;have hO:IntKind.i64.wrap ((i:Int)+1)=(i:Int)+1:=IntWalk.i64_in _ (by omega);clear co;have hd:((decide (C< -1099511627776)=true∨decide (C< -1099511627776)=false∧(decide (1099511627776<C)=true∨decide (1099511627776<C)=false∧decide ((40:Int)<(J.length:Int))=true))∧zcn (J,C)=false)∨(decide (C< -1099511627776)=false∧decide (1099511627776<C)=false∧decide ((40:Int)<(J.length:Int))=false∧ -1099511627776≤C∧C≤1099511627776∧J.length≤40):=by
     unfold zcn inR;by_cases a:C< -1099511627776
     ·exact .inl ⟨.inl (decide_eq_true a),by rw [decide_eq_false (show¬ -1099511627776≤C by omega)];rfl⟩
     ·by_cases b:1099511627776<C
      ·exact .inl ⟨.inr ⟨decide_eq_false a,.inl (decide_eq_true b)⟩,by rw [decide_eq_false (show¬C≤1099511627776 by omega)];simp⟩
      ·by_cases c:40<J.length
       ·exact .inl ⟨.inr ⟨decide_eq_false a,.inr ⟨decide_eq_false b,decide_eq_true (by omega)⟩⟩,by rw [decide_eq_false (show¬J.length≤40 by omega)];simp⟩
       ·exact .inr ⟨decide_eq_false a,decide_eq_false b,decide_eq_false (by omega),by omega,by omega,by omega⟩
    rcases hd with⟨hd,aC⟩|⟨eI,dY,gr,hF,h0,hH⟩
    ·have aC:=Qh (zkN (rest:=rest) Hp.out aC);rcases hd with eI|⟨eI,dY|⟨dY,gr⟩⟩
     all_goals
      go_wp2_with fail;rw [←eO.out];have E:=k2.pu Q;have ap:=k3.pu Q;obtain⟨a0,a1,a2⟩:=kA.c3_;obtain⟨cV,cD,cJ,bP⟩:=O.c4_;obtain⟨u0,u1,u2⟩:=E.c3_;obtain⟨dc,cE,db⟩:=E.z3_;have aY:=bW.out;obtain⟨av,G⟩:=zb1 E (.bool g1) (.slice A1 n1 c1) (.pointer m1);have S:∀j,j=w.heap.size+1→j<Z.heap.size:=fun j H=>by have:=aP.size;omega
      have R:∀j,j=w.heap.size+1+1→j<Z.heap.size:=fun j H=>by have:=aP.size;omega
      have D:=ap.fr G (by omega);have ai:=O.fr G (by omega);clear aY;obtain⟨c5,cR,dd,cG⟩:=ai.c4_;obtain⟨t0,t1,t2,t3⟩:=D.c4_;obtain⟨cZ,cx,c0,cY⟩:=D.z4_;obtain⟨am,I⟩:=zdO D (.slice An nx cn) (.slice Af nx cf) (.int .i64 s1) (.slice A3 n3 c3);have ak:=av.fr I (by omega);have au:=((a6.frT G (fun g U=>S g U) (zh E (by decide))).frT I (fun g U=>R g U) (zh D (by decide))).pu (Pu.refl _).drew;have ao:=((aF.frT G (zaJ E (by decide) (by decide) (by decide))).frT I (zaJ D (by decide) (by decide) (by decide))).pu (Pu.refl _).drew;have aj:=(((pW.trans Q).step G (fun j H=>by
        have e':j=w.heap.size+1:=H;omega)).step I (fun j H=>by
        have e':j=w.heap.size+1+1:=H;omega)).drew
      obtain⟨r0,r1,r2⟩:=(ak.pu (Pu.refl _).drew).c3_;obtain⟨q0,q1,q2,q3⟩:=(am.pu (Pu.refl _).drew).c4_;have HG:=Qh (AI au (AI ao aj));clear D am I ak au ao aj S R av G E ap ai;go_region;go_wp2;exact bodyPost_ret (v:= .tuple #[.agg #[.bool g1,.slice A1 n1 c1,.pointer m1],.agg #[.slice An nx cn,.slice Af nx cf,.int .i64 s1,.slice A3 n3 c3],.bool false]) (by simp [results,Tryz.results16,go_sem,r0,r1,r2,q0,q1,q2,q3]) rfl ⟨_,false,An,nx,cn,Af,cf,⟨s1,A3,n3,c3⟩,_,rfl,aC.out.symm,HG.out.1.lo_ bf,(fun h=>by cases h),by omega,HG.out.2.1.le (by omega),HG.out.2.2⟩
    obtain⟨nm,hnm⟩:∃nm,zdN J=nm:=⟨_,rfl⟩
    have bh:=fun V=>znC J V fe;rw [hnm]at bh;have bQ:=Qh bh;have eh:=Qh hnm;clear bh hnm;go_wp2_with fail;refine(bQ.out _).mono ?_;rintro e u ⟨rfl,pu⟩;rw [←eO.out]at pu;replace kA:=kA.pu pu;replace O:=O.pu pu;replace a6:=a6.pu pu;replace aF:=aF.pu pu;replace Q:=Q.trans pu;replace k8:=k8.pu pu;have cQ:Z.heap.size≤u.heap.size:=Nat.le_trans fD pu.size;clear bQ x0 x1 pX pu
    cases nm with
    |false=>
     have aC:=Qh (zkN (rest:=rest) Hp.out (by unfold zcn;rw [eh.out];simp));go_wp2_with fail;have E:=k2.pu Q;have ap:=k3.pu Q;obtain⟨a0,a1,a2⟩:=kA.c3_;obtain⟨cV,cD,cJ,bP⟩:=O.c4_;obtain⟨u0,u1,u2⟩:=E.c3_;obtain⟨dc,cE,db⟩:=E.z3_;have aY:=bW.out;obtain⟨av,G⟩:=zb1 E (.bool g1) (.slice A1 n1 c1) (.pointer m1);have S:∀j,j=w.heap.size+1→j<Z.heap.size:=fun j H=>by have:=aP.size;omega
     have R:∀j,j=w.heap.size+1+1→j<Z.heap.size:=fun j H=>by have:=aP.size;omega
     have D:=ap.fr G (by omega);have ai:=O.fr G (by omega);clear aY;obtain⟨c5,cR,dd,cG⟩:=ai.c4_;obtain⟨t0,t1,t2,t3⟩:=D.c4_;obtain⟨cZ,cx,c0,cY⟩:=D.z4_;obtain⟨am,I⟩:=zdO D (.slice An nx cn) (.slice Af nx cf) (.int .i64 s1) (.slice A3 n3 c3);have ak:=av.fr I (by omega);have au:=((a6.frT G (fun g U=>S g U) (zh E (by decide))).frT I (fun g U=>R g U) (zh D (by decide))).pu (Pu.refl _).drew;have ao:=((aF.frT G (zaJ E (by decide) (by decide) (by decide))).frT I (zaJ D (by decide) (by decide) (by decide))).pu (Pu.refl _).drew;have aj:=(((pW.trans Q).step G (fun j H=>by
       have e':j=w.heap.size+1:=H;omega)).step I (fun j H=>by
       have e':j=w.heap.size+1+1:=H;omega)).drew
     obtain⟨r0,r1,r2⟩:=(ak.pu (Pu.refl _).drew).c3_;obtain⟨q0,q1,q2,q3⟩:=(am.pu (Pu.refl _).drew).c4_;have HG:=Qh (AI au (AI ao aj));clear D am I ak au ao aj S R av G E ap ai;go_region;go_wp2;exact bodyPost_ret (v:= .tuple #[.agg #[.bool g1,.slice A1 n1 c1,.pointer m1],.agg #[.slice An nx cn,.slice Af nx cf,.int .i64 s1,.slice A3 n3 c3],.bool false]) (by simp [results,Tryz.results16,go_sem,r0,r1,r2,q0,q1,q2,q3]) rfl ⟨_,false,An,nx,cn,Af,cf,⟨s1,A3,n3,c3⟩,_,rfl,aC.out.symm,HG.out.1.lo_ bf,(fun h=>by cases h),by omega,HG.out.2.1.le (by omega),HG.out.2.2⟩
    |true=>
     have cX:zcn (J,C)=true:=by unfold zcn inR;rw [eh.out,decide_eq_true (show -1099511627776≤C by omega),decide_eq_true (show C≤1099511627776 by omega),decide_eq_true (show J.length≤40 by omega)];rfl
     have bS:∀p∈ps.take (i+1),zcn p=true:=fun p o=>by
       rw [List.take_add_one,Hp.out]at o;rcases List.mem_append.1 o with h|h
       ·exact aX p h
       ·have e:p=(J,C):=by simpa using h
        rw [e];exact cX
     have fQ:=Qh (zgb Hp.out);have cC:=zjY (M:=1099511627776) i (by omega) (fun p o=>zkA (by have h:=aX p o;unfold zcn at h;simp only [Bool.and_eq_true]at h;exact h.1.1));have cw:=zo8 ps i (by omega);have cS:C.natAbs≤1099511627776:=by omega
     have HA:=Qh (AI bS (AI cC (AI cw cS)));clear aX bS cX cC cw cS;have fh:i<12:=by omega
     go_wp2_with fail;have pd:Pu u u.drew:=(Pu.refl u).drew;have bq:=Qh (show∀V (t:Pu u V) (a b:Value),TM V a 0 [(J,1)]→ZR V b C→Calls Tryz.prog 29 #[a,b] V fun e w'=>∃v,e= .returned v∧TMO w' V.heap.size v (0*C) (zlB (J,C))∧Pu V w' from fun V t a b ha hb=>zaW a b 0 C [(J,1)] 1099511627776 V ha hb (fun g U=>by
       rw [List.mem_singleton.1 U,Int.one_mul];exact HA.out.2.2.2) (by simp) (zC (n:=1100000*1099511627776) (a:=3) (b:=E3) (by decide) (by decide)) (zC (n:=C.natAbs) (a:=3) (b:=E3) (Nat.lt_of_le_of_lt HA.out.2.2.2 (by decide)) (by decide)) (fun g U=>by
       rw [List.mem_singleton.1 U];show(1:Int).natAbs<_;exact zds (by decide)) zan)
     have eZ:i*1099511627776+1100000*1099511627776<4294967296^3:=Nat.lt_of_le_of_lt (Nat.add_le_add_right (Nat.mul_le_mul_right _ (Nat.le_of_lt fh)) _) (by decide);have cu:=zC (n:=i*1099511627776+1100000*1099511627776) (a:=3) (b:=E3) eZ (by decide);have dM:rest.natAbs<4294967296^E3:=zC (n:=rest.natAbs) (a:=3) (b:=E3) (Nat.lt_of_le_of_lt (show rest.natAbs≤9223372036854775808 by omega) (by decide)) (by decide);have bU:=Qh (show∀V (t:Pu u V) (q:Nat) (g2:Bool) (Aq:Option Addr) (n2 c2:Nat) (m2:Option Addr),TM V (.agg #[.bool g2,.slice Aq n2 c2,.pointer m2]) (0*C) (zlB (J,C))→Blk V q 33 #[.bool g2,.slice Aq n2 c2,.pointer m2]→Calls Tryz.prog 31 #[.agg #[.bool g1,.slice A1 n1 c1,.pointer m1],.slice (some ⟨q,0,none⟩) 1 1] V fun e w'=>∃v,e= .returned v∧TMO w' V.heap.size v (rest+0*C*1) (zoH (zh9 (ps.take i)) (J,C))∧Pu V w' from fun V t q g2 Aq n2 c2 m2 h1 h2=>zcd _ rest (0*C) _ _ (i*1099511627776) 1099511627776 V q g2 Aq n2 c2 m2 (a6.tm.pu t) h2 h1 HA.out.2.1 ((zjy (J,C)).le HA.out.2.2.2) (by have h3:=zh4 (J,C);have h4:=HA.out.2.2.1;omega) cu dM (by rw [Int.zero_mul];exact zan));clear eZ cu dM;refine zw 9 (fun _ w=>Pu u w) (fun _=>Pu) (fun io=>match io with|0=>fun vv_ _=>vv_= .agg #[.bool g1,.slice A1 n1 c1,.pointer m1]|1=>fun vv_ _=>vv_= .pointer (some ⟨wr.heap.size,0,none⟩)|2=>fun vv_ _=>vv_= .string ⟨J.toArray⟩|3=>fun v w=>∃g A n c m,v= .agg #[.bool g,.slice A n c,.pointer m]∧TM w (.agg #[.bool g,.slice A n c,.pointer m]) 0 [(J,1)]|4=>fun vv_ _=>vv_= .pointer (some ⟨wr.heap.size,1,none⟩)|5=>fun vv_ _=>vv_= .int .i64 C|6=>fun v w=>∃g A n c,v= .agg #[.bool g,.slice A n c]∧ZR w (.agg #[.bool g,.slice A n c]) C|7=>fun v w=>∃g A n c m,v= .agg #[.bool g,.slice A n c,.pointer m]∧TM w (.agg #[.bool g,.slice A n c,.pointer m]) (0*C) (zlB (J,C))|8=>fun v w=>∃q g A n c m,v= .slice (some ⟨q,0,none⟩) 1 1∧Blk w q 33 #[.bool g,.slice A n c,.pointer m]∧TM w (.agg #[.bool g,.slice A n c,.pointer m]) (0*C) (zlB (J,C))|_=>fun _ _=>True) [some 62,some 63,some 64,some 65,some 66,some 67,some 68,some 69,some 70] (by kernel_rfl) (by kernel_rfl) rfl pd ?_ ?_ ?_ ?_
     ·intro ko N u u' hk z hI hR;exact hI.trans hR
     ·intro io ko v u u' hi hk aD h cv;have hR:=cv
      match io,hi,aD,h with
      |0,_,_,h=>exact h
      |1,_,_,h=>exact h
      |2,_,_,h=>exact h
      |3,_,aD,h=>replace h:∃g A n c m,v= .agg #[.bool g,.slice A n c,.pointer m]∧TM u (.agg #[.bool g,.slice A n c,.pointer m]) 0 [(J,1)]:=h;obtain⟨g,A,n,c,m,e,h⟩:=h;exact⟨g,A,n,c,m,e,h.pu hR⟩
      |4,_,_,h=>exact h
      |5,_,_,h=>exact h
      |6,_,aD,h=>replace h:∃g A n c,v= .agg #[.bool g,.slice A n c]∧ZR u (.agg #[.bool g,.slice A n c]) C:=h;obtain⟨g,A,n,c,e,h⟩:=h;exact⟨g,A,n,c,e,h.pu hR⟩
      |7,_,aD,h=>replace h:∃g A n c m,v= .agg #[.bool g,.slice A n c,.pointer m]∧TM u (.agg #[.bool g,.slice A n c,.pointer m]) (0*C) (zlB (J,C)):=h;obtain⟨g,A,n,c,m,e,h⟩:=h;exact⟨g,A,n,c,m,e,h.pu hR⟩
      |8,_,aD,h=>replace h:∃q g A n c m,v= .slice (some ⟨q,0,none⟩) 1 1∧Blk u q 33 #[.bool g,.slice A n c,.pointer m]∧TM u (.agg #[.bool g,.slice A n c,.pointer m]) (0*C) (zlB (J,C)):=h;obtain⟨q,g,A,n,c,m,e,h,h'⟩:=h;exact⟨q,g,A,n,c,m,e,h.pu hR,h'.pu hR⟩
      |_+9,hi,_,_=>exact absurd hi (by omega)
     ·refine zc.cons [] rfl (by kernel_rfl) (fun y N V z t o K k=>?_) ?_
      ·simp only [PU,Nat.reduceEqDiff,Nat.reduceAdd,reduceIte]at k⊢;clear o;obtain⟨x0,x1,x2⟩:=(kA.pu t).c3_;go_simp;exact k.out _ _ (Pu.refl _) rfl
      refine zc.cons [] rfl (by kernel_rfl) (fun y N V z t o K k=>?_) ?_
      ·simp only [PU,Nat.reduceEqDiff,Nat.reduceAdd,reduceIte]at k⊢;clear o;go_simp;exact k.out _ _ (Pu.refl _) rfl
      refine zc.cons [1] rfl (by kernel_rfl) (fun y N V z t o K k=>?_) ?_
      ·simp only [PU,Nat.reduceEqDiff,Nat.reduceAdd,reduceIte]at k⊢;have e1:=o 1 (by simp);clear o;generalize y 1=z1 at k e1⊢;obtain rfl:=e1;obtain⟨x0,x1⟩:=(k8.pu t).c2_;go_simp;exact k.out _ _ (Pu.refl _) rfl
      refine zc.cons [2] rfl (by kernel_rfl) (fun y N V z t o K k=>?_) ?_
      ·simp only [PU,Nat.reduceEqDiff,Nat.reduceAdd,reduceIte]at k⊢;have G:=o 2 (by simp);clear o;generalize y 2=z2 at k G⊢;obtain rfl:=G;go_simp;go_at_call 26;refine(zcJ J _).mono ?_;rintro e u1 ⟨v,rfl,bR,p1⟩;obtain⟨g,A,n,c,m,rfl⟩:=bR.shape;go_wp2_with fail;exact k.out _ _ p1 ⟨g,A,n,c,m,rfl,bR⟩
      refine zc.cons [] rfl (by kernel_rfl) (fun y N V z t o K k=>?_) ?_
      ·simp only [PU,Nat.reduceEqDiff,Nat.reduceAdd,reduceIte]at k⊢;clear o;go_simp;exact k.out _ _ (Pu.refl _) rfl
      refine zc.cons [4] rfl (by kernel_rfl) (fun y N V z t o K k=>?_) ?_
      ·simp only [PU,Nat.reduceEqDiff,Nat.reduceAdd,reduceIte]at k⊢;have e4:=o 4 (by simp);clear o;generalize y 4=z4 at k e4⊢;obtain rfl:=e4;obtain⟨x0,x1⟩:=(k8.pu t).c2_;go_simp;exact k.out _ _ (Pu.refl _) rfl
      refine zc.cons [5] rfl (by kernel_rfl) (fun y N V z t o K k=>?_) ?_
      ·simp only [PU,Nat.reduceEqDiff,Nat.reduceAdd,reduceIte]at k⊢;have e5:=o 5 (by simp);clear o;generalize y 5=z5 at k e5⊢;obtain rfl:=e5;go_simp;go_at_call 30;refine(zaG C _ bJ bD).mono ?_;rintro e u1 ⟨v,rfl,aq,p1⟩;obtain⟨g,A,n,c,rfl⟩:=aq.shape2;go_wp2_with fail;exact k.out _ _ p1 ⟨g,A,n,c,rfl,aq⟩
      refine zc.cons [3,6] rfl (by kernel_rfl) (fun y N V z t o K k=>?_) ?_
      ·simp only [PU,Nat.reduceEqDiff,Nat.reduceAdd,reduceIte]at k⊢;have h3:=o 3 (by simp);have h6:=o 6 (by simp);clear o;generalize y 3=z3 at k h3⊢;generalize y 6=z6 at k h6⊢;obtain⟨g3,hC,h9,bP,hm,rfl,h3⟩:=h3;obtain⟨g6,hw,hD,hq,rfl,h6⟩:=h6;go_simp;go_at_call 29;refine(bq.out _ t _ _ h3 h6).mono ?_;rintro e u1 ⟨v,rfl,bo,p1⟩;obtain⟨g,A,n,c,m,rfl⟩:=bo.tm.shape;go_wp2_with fail;exact k.out _ _ p1 ⟨g,A,n,c,m,rfl,bo.tm⟩
      refine zc.cons [7] rfl (by kernel_rfl) (fun y N V z t o K k=>?_) ?_
      ·simp only [PU,Nat.reduceEqDiff,Nat.reduceAdd,reduceIte]at k⊢;have h7:=o 7 (by simp);clear o;generalize y 7=z7 at k h7⊢;obtain⟨g7,A7,n7,c7,m7,rfl,h7⟩:=h7;go_simp;exact k.out _ _ ((Pu.refl _).alloc _) ⟨_,_,_,_,_,_,rfl,Blk.new _ _ _,h7.pu ((Pu.refl _).alloc _)⟩
      exact zc.nil
     ·intro y V N hL t o;have f0:=o 0 (by decide);have f1:=o 1 (by decide);have f2:=o 2 (by decide);have f3:=o 3 (by decide);have f4:=o 4 (by decide);have f5:=o 5 (by decide);have f6:=o 6 (by decide);have f7:=o 7 (by decide);have f8:=o 8 (by decide);clear o;simp only [PU,Nat.reduceEqDiff,Nat.reduceAdd,reduceIte];generalize y 0=z0 at f0⊢;generalize y 1=z1 at f1⊢;generalize y 2=z2 at f2⊢;generalize y 3=z3 at f3⊢;generalize y 4=z4 at f4⊢;generalize y 5=z5 at f5⊢;generalize y 6=z6 at f6⊢;generalize y 7=z7 at f7⊢;generalize y 8=z8 at f8⊢;obtain rfl:=f0;obtain rfl:=f1;obtain rfl:=f2;obtain rfl:=f4;obtain rfl:=f5;clear f3 f6 f7;obtain⟨q,g8,A8,n8,c8,m8,rfl,dB,h8⟩:=f8;go_wp2_with fail;refine(bU.out _ t q g8 A8 n8 c8 m8 h8 dB).mono ?_;rintro e u1 ⟨v,rfl,hT,p1⟩;obtain⟨g9,A9,n9,c9,m9,rfl⟩:=hT.tm.shape;have pU:=t.trans p1;have P:=kA.pu pU;have x0:=P.cell 0;have gw:=P.frozen 0;have x1:=P.cell 1;have fX:=P.frozen 1;have x2:=P.cell 2;have fY:=P.frozen 2;obtain⟨bt,eR⟩:=zb1 P (.bool g9) (.slice A9 n9 c9) (.pointer m9);have ba:=hT.frT eR (fun j H=>by have e':j=T:=H;have:=t.size;omega) (zh P (by decide));have bB:=(O.pu pU).fr eR (fun h=>b8 h.symm);have eB:=(aF.pu pU).frT eR (zaJ P (by decide) (by decide) (by decide));have b0:=(Q.trans pU).step eR (fun j H=>by have e':j=T:=H;omega);have eF:=(k8.pu pU).fr eR (k8.ne_ kA (by decide));have eY:TMX (((u1.setCell ⟨T,0,none⟩ (.bool g9)).setCell ⟨T,1,none⟩ (.slice A9 n9 c9)).setCell ⟨T,2,none⟩ (.pointer m9)) Z.heap.size (.agg #[.bool g9,.slice A9 n9 c9,.pointer m9]) rest (zh9 (ps.take (i+1))):= .inr ⟨V.heap.size,Nat.le_trans cQ t.size,by
        rw [fQ.out];have e0:rest+0*C*1=rest:=by omega
        rw [e0]at ba;exact ba⟩
      have cL:Z.heap.size≤(((u1.setCell ⟨T,0,none⟩ (.bool g9)).setCell ⟨T,1,none⟩ (.slice A9 n9 c9)).setCell ⟨T,2,none⟩ (.pointer m9)).heap.size:=Nat.le_trans (Nat.le_trans cQ pU.size) eR.size;have HT:=Qh (AI bt (AI bB (AI eB (AI b0 (AI eF (AI eY cL))))));clear bt bB eB b0 eF eY ba eR P hT dB h8 p1 pU t cL pd;go_wp2_with fail;generalize (((u1.setCell ⟨T,0,none⟩ (.bool g9)).setCell ⟨T,1,none⟩ (.slice A9 n9 c9)).setCell ⟨T,2,none⟩ (.pointer m9))=Y at HT⊢;have gq:=HT.out.1;have d4:=HT.out.2.1;have fK:=HT.out.2.2.1;have pY:=HT.out.2.2.2.1;have dP:=HT.out.2.2.2.2.1;have gA:=HT.out.2.2.2.2.2.1;have fG:=HT.out.2.2.2.2.2.2;clear HT kA O aF a6 k8 bq bU;have pd:Pu Y Y.drew:=(Pu.refl Y).drew;have fN:=Qh (show∀V (t:Pu Y V) (Am:Option Addr) (cm:Nat) (Ag:Option Addr) (cg:Nat) (r2:RawZ) (q:RawZ) (y:Int),TR V Am 1 cm Ag cg r2 1→RZ V q.val y→y.natAbs≤1099511627776→Calls Tryz.prog 45 #[zjg An nx cn Af nx cf ⟨s1,A3,n3,c3⟩,zjg Am 1 cm Ag 1 cg r2,q.val] V fun e w'=>∃bn n' b7 bw b4 r',e= .returned (zjg bn n' b7 bw n' b4 r')∧n'≤nx+1∧TR w' bn n' b7 bw b4 r' (9223372036854775808+(i+1)*1099511627776)∧Pu V w' from fun V t Am cm Ag cg r2 q y h1 h2 h3=>zlN (9223372036854775808+i*1099511627776) 1 (9223372036854775808+(i+1)*1099511627776) An nx cn Af cf ⟨s1,A3,n3,c3⟩ Am 1 cm Ag cg r2 q y V (fK.pu t) h1 h2 (by omega) (Nat.lt_of_le_of_lt (Nat.add_le_add_left (Nat.mul_le_mul_right _ (show i+1≤13 by omega)) _) (by decide)) (Nat.lt_of_le_of_lt h3 (by decide)) (by decide) (by omega));refine zw 7 (fun _ w=>Pu Y w) (fun _=>Pu) (fun io=>match io with|0=>fun vv_ _=>vv_= .agg #[.slice An nx cn,.slice Af nx cf,.int .i64 s1,.slice A3 n3 c3]|1=>fun vv_ _=>vv_= .pointer (some ⟨wr.heap.size,0,none⟩)|2=>fun vv_ _=>vv_= .string ⟨J.toArray⟩|3=>fun v w=>∃Am cm Ag cg s A n c,v= .agg #[.slice Am 1 cm,.slice Ag 1 cg,.int .i64 s,.slice A n c]∧TR w Am 1 cm Ag cg ⟨s,A,n,c⟩ 1|4=>fun vv_ _=>vv_= .pointer (some ⟨wr.heap.size,1,none⟩)|5=>fun vv_ _=>vv_= .int .i64 C|6=>fun v w=>∃s A n c yz,v= .agg #[.int .i64 s,.slice A n c]∧RZ w (.agg #[.int .i64 s,.slice A n c]) yz∧yz.natAbs≤1099511627776|_=>fun _ _=>True) [some 72,some 73,some 74,some 75,some 76,some 77,some 78] (by kernel_rfl) (by kernel_rfl) rfl pd ?_ ?_ ?_ ?_
      ·intro ko N u u' hk z hI hR;exact hI.trans hR
      ·intro io ko v u u' hi hk aD h cv;have hR:=cv
       match io,hi,aD,h with
       |0,_,_,h=>exact h
       |1,_,_,h=>exact h
       |2,_,_,h=>exact h
       |3,_,aD,h=>replace h:∃Am cm Ag cg s A n c,v= .agg #[.slice Am 1 cm,.slice Ag 1 cg,.int .i64 s,.slice A n c]∧TR u Am 1 cm Ag cg ⟨s,A,n,c⟩ 1:=h;obtain⟨Am,cm,Ag,cg,s,A,n,c,e,h⟩:=h;exact⟨Am,cm,Ag,cg,s,A,n,c,e,h.pu hR⟩
       |4,_,_,h=>exact h
       |5,_,_,h=>exact h
       |6,_,aD,h=>replace h:∃s A n c yz,v= .agg #[.int .i64 s,.slice A n c]∧RZ u (.agg #[.int .i64 s,.slice A n c]) yz∧yz.natAbs≤1099511627776:=h;obtain⟨s,A,n,c,y,e,h,h'⟩:=h;exact⟨s,A,n,c,y,e,h.pu hR,h'⟩
       |_+7,hi,_,_=>exact absurd hi (by omega)
      ·refine zc.cons [] rfl (by kernel_rfl) (fun y N V z t o K k=>?_) ?_
       ·simp only [PU,Nat.reduceEqDiff,Nat.reduceAdd,reduceIte]at k⊢;clear o;obtain⟨x0,x1,x2,x3⟩:=(d4.pu t).c4_;go_simp;exact k.out _ _ (Pu.refl _) rfl
       refine zc.cons [] rfl (by kernel_rfl) (fun y N V z t o K k=>?_) ?_
       ·simp only [PU,Nat.reduceEqDiff,Nat.reduceAdd,reduceIte]at k⊢;clear o;go_simp;exact k.out _ _ (Pu.refl _) rfl
       refine zc.cons [1] rfl (by kernel_rfl) (fun y N V z t o K k=>?_) ?_
       ·simp only [PU,Nat.reduceEqDiff,Nat.reduceAdd,reduceIte]at k⊢;have e1:=o 1 (by simp);clear o;generalize y 1=z1 at k e1⊢;obtain rfl:=e1;obtain⟨x0,x1⟩:=(dP.pu t).c2_;go_simp;exact k.out _ _ (Pu.refl _) rfl
       refine zc.cons [2] rfl (by kernel_rfl) (fun y N V z t o K k=>?_) ?_
       ·simp only [PU,Nat.reduceEqDiff,Nat.reduceAdd,reduceIte]at k⊢;have G:=o 2 (by simp);clear o;generalize y 2=z2 at k G⊢;obtain rfl:=G;go_simp;go_at_call 46;refine(zog J _).mono ?_;rintro e u1 ⟨Am,cm,Ag,cg,⟨s,A,n,c⟩,rfl,bR,p1⟩;go_wp2_with fail;exact k.out _ _ p1 ⟨Am,cm,Ag,cg,s,A,n,c,rfl,bR⟩
       refine zc.cons [] rfl (by kernel_rfl) (fun y N V z t o K k=>?_) ?_
       ·simp only [PU,Nat.reduceEqDiff,Nat.reduceAdd,reduceIte]at k⊢;clear o;go_simp;exact k.out _ _ (Pu.refl _) rfl
       refine zc.cons [4] rfl (by kernel_rfl) (fun y N V z t o K k=>?_) ?_
       ·simp only [PU,Nat.reduceEqDiff,Nat.reduceAdd,reduceIte]at k⊢;have e4:=o 4 (by simp);clear o;generalize y 4=z4 at k e4⊢;obtain rfl:=e4;obtain⟨x0,x1⟩:=(dP.pu t).c2_;go_simp;exact k.out _ _ (Pu.refl _) rfl
       refine zc.cons [5] rfl (by kernel_rfl) (fun y N V z t o K k=>?_) ?_
       ·simp only [PU,Nat.reduceEqDiff,Nat.reduceAdd,reduceIte]at k⊢;have e5:=o 5 (by simp);clear o;generalize y 5=z5 at k e5⊢;obtain rfl:=e5;go_simp;go_at_call 44;refine(ziU C _ bJ bD).mono ?_;rintro e u1 ⟨v,y,rfl,aq,hy,p1⟩;obtain⟨s,A,n,c,rfl⟩:=aq.raw;go_wp2_with fail;exact k.out _ _ p1 ⟨s,A,n,c,y,rfl,aq,Nat.le_trans hy HA.out.2.2.2⟩
       exact zc.nil
      ·intro y V N hL t o;have f0:=o 0 (by decide);have f1:=o 1 (by decide);have f2:=o 2 (by decide);have f3:=o 3 (by decide);have f4:=o 4 (by decide);have f5:=o 5 (by decide);have f6:=o 6 (by decide);clear o;simp only [PU,Nat.reduceEqDiff,Nat.reduceAdd,reduceIte];generalize y 0=z0 at f0⊢;generalize y 1=z1 at f1⊢;generalize y 2=z2 at f2⊢;generalize y 3=z3 at f3⊢;generalize y 4=z4 at f4⊢;generalize y 5=z5 at f5⊢;generalize y 6=z6 at f6⊢;obtain rfl:=f0;obtain rfl:=f1;obtain rfl:=f2;obtain rfl:=f4;obtain rfl:=f5;obtain⟨Am,cm,Ag,cg,sm,fV,g5,gB,rfl,h3⟩:=f3;obtain⟨s6,A6,n6,c6,y6,rfl,h6,g4⟩:=f6;go_wp2_with fail;refine(fN.out _ t Am cm Ag cg ⟨sm,fV,g5,gB⟩ ⟨s6,A6,n6,c6⟩ y6 h3 h6 g4).mono ?_;rintro e u2 ⟨bn,cP,b7,bw,b4,⟨s7,A7,n7,c7⟩,rfl,gH,hT,p1⟩;have pU:=t.trans p1;have P:=d4.pu pU;have x0:=P.cell 0;have gw:=P.frozen 0;have x1:=P.cell 1;have fX:=P.frozen 1;have x2:=P.cell 2;have fY:=P.frozen 2;have x3:=P.cell 3;have ht:=P.frozen 3;obtain⟨bt,eR⟩:=zdO P (.slice bn cP b7) (.slice bw cP b4) (.int .i64 s7) (.slice A7 n7 c7);have ba:=hT.frT eR (zaJ P (by decide) (by decide) (by decide));have bs:=(gq.pu pU).fr eR (fun h=>b8 h);have bV:=(gA.pu pU).frT eR (fun j H=>by have e':j=b6:=H;omega) (zh P (by decide));have b0:=(pY.trans pU).step eR (fun j H=>by have e':j=b6:=H;omega);have ei:=Nat.le_trans (Nat.le_trans fG pU.size) eR.size;have HF:=Qh (AI bt (AI ba (AI bs (AI bV (AI b0 ei)))));clear bt ba bs bV b0 ei eR P hT h3 h6;unfold zjg;go_wp2;go_roundw
       case rel=>exact⟨i+1,by omega,by go_num,⟨HF.out.2.2.2.2.1,⟨g9,A9,n9,c9,m9,bn,cP,b7,bw,b4,s7,A7,n7,c7,HF.out.2.2.1,HF.out.1,HF.out.2.2.2.1,HF.out.2.1,by omega⟩,HF.out.2.2.2.2.2,HA.out.1⟩⟩
       case measure=>simp [intOf];omega
   ·obtain rfl:i=ps.length:=by omega
    have fm:=Qh (zqV (rest:=rest) (ps:=ps) (by omega) (by unfold inR;simp;omega) (fun p o=>aX p (by simpa using o)));have bV:TMX wr Z.heap.size (.agg #[.bool g1,.slice A1 n1 c1,.pointer m1]) rest (zh9 ps):=by simpa using a6
    have gY:ps.length≤12:=by omega
    clear a6 aX;go_wp2_with fail;have E:=k2.pu Q;have ap:=k3.pu Q;obtain⟨a0,a1,a2⟩:=kA.c3_;obtain⟨cV,cD,cJ,bP⟩:=O.c4_;obtain⟨u0,u1,u2⟩:=E.c3_;obtain⟨dc,cE,db⟩:=E.z3_;have aY:=bW.out;obtain⟨av,G⟩:=zb1 E (.bool g1) (.slice A1 n1 c1) (.pointer m1);have S:∀j,j=w.heap.size+1→j<Z.heap.size:=fun j H=>by have:=aP.size;omega
    have R:∀j,j=w.heap.size+1+1→j<Z.heap.size:=fun j H=>by have:=aP.size;omega
    have D:=ap.fr G (by omega);have ai:=O.fr G (by omega);clear aY;obtain⟨c5,cR,dd,cG⟩:=ai.c4_;obtain⟨t0,t1,t2,t3⟩:=D.c4_;obtain⟨cZ,cx,c0,cY⟩:=D.z4_;obtain⟨am,I⟩:=zdO D (.slice An nx cn) (.slice Af nx cf) (.int .i64 s1) (.slice A3 n3 c3);have ak:=av.fr I (by omega);have au:=((bV.frT G (fun g U=>S g U) (zh E (by decide))).frT I (fun g U=>R g U) (zh D (by decide))).pu (Pu.refl _).drew;have ao:=((aF.frT G (zaJ E (by decide) (by decide) (by decide))).frT I (zaJ D (by decide) (by decide) (by decide))).pu (Pu.refl _).drew;have aj:=(((pW.trans Q).step G (fun j H=>by
      have e':j=w.heap.size+1:=H;omega)).step I (fun j H=>by
      have e':j=w.heap.size+1+1:=H;omega)).drew
    obtain⟨r0,r1,r2⟩:=(ak.pu (Pu.refl _).drew).c3_;obtain⟨q0,q1,q2,q3⟩:=(am.pu (Pu.refl _).drew).c4_;have HG:=Qh (AI au (AI ao aj));clear D am I ak au ao aj S R av G E ap ai;go_region;go_wp2;exact bodyPost_ret (v:= .tuple #[.agg #[.bool g1,.slice A1 n1 c1,.pointer m1],.agg #[.slice An nx cn,.slice Af nx cf,.int .i64 s1,.slice A3 n3 c3],.bool true]) (by simp [results,Tryz.results16,go_sem,r0,r1,r2,q0,q1,q2,q3]) rfl ⟨_,true,An,nx,cn,Af,cf,⟨s1,A3,n3,c3⟩,_,rfl,fm.out.symm,HG.out.1.lo_ bf,(fun _=>rfl),by omega,HG.out.2.1.le (by omega),HG.out.2.2⟩
 have Key:=Qh dU;clear dU cI;obtain⟨V0,hV0⟩:∃V0,V0=W:=⟨_,rfl⟩
 have af:∀j x u u',(fun io=>match io with|0=>fun v _=>v= .pointer (some ⟨w.heap.size,1,none⟩)|1=>fun v _=>v= .int .i64 rest|2=>fun v w=>∃g A n c,v= .agg #[.bool g,.slice A n c]∧ZR w (.agg #[.bool g,.slice A n c]) rest|3=>fun v w=>∃g A n c,v= .agg #[.bool g,.slice A n c,.pointer none]∧ZR w (.agg #[.bool g,.slice A n c]) rest|4=>fun v _=>v= .pointer (some ⟨w.heap.size,1,none⟩)|5=>fun v _=>v= .int .i64 rest|6=>fun v w=>∃s A n c,v= .agg #[.int .i64 s,.slice A n c]∧NZ_ w 9223372036854775808 (.agg #[.int .i64 s,.slice A n c])|7=>fun v w=>∃s A n c,v= .agg #[.slice none 0 0,.slice none 0 0,.int .i64 s,.slice A n c]∧NZ_ w 9223372036854775808 (.agg #[.int .i64 s,.slice A n c])|8=>fun _ _=>True|9=>fun v w=>∃b,v=ptr b∧V0.heap.size≤b∧Blk w b 56 #[.slice none 0 0,.slice none 0 0,.int .i64 0,.slice none 0 0]|10=>fun _ _=>True|_=>fun _ _=>True:Nat→Value→World→Prop) j x u→NT V0 u u'→(fun io=>match io with|0=>fun v _=>v= .pointer (some ⟨w.heap.size,1,none⟩)|1=>fun v _=>v= .int .i64 rest|2=>fun v w=>∃g A n c,v= .agg #[.bool g,.slice A n c]∧ZR w (.agg #[.bool g,.slice A n c]) rest|3=>fun v w=>∃g A n c,v= .agg #[.bool g,.slice A n c,.pointer none]∧ZR w (.agg #[.bool g,.slice A n c]) rest|4=>fun v _=>v= .pointer (some ⟨w.heap.size,1,none⟩)|5=>fun v _=>v= .int .i64 rest|6=>fun v w=>∃s A n c,v= .agg #[.int .i64 s,.slice A n c]∧NZ_ w 9223372036854775808 (.agg #[.int .i64 s,.slice A n c])|7=>fun v w=>∃s A n c,v= .agg #[.slice none 0 0,.slice none 0 0,.int .i64 s,.slice A n c]∧NZ_ w 9223372036854775808 (.agg #[.int .i64 s,.slice A n c])|8=>fun _ _=>True|9=>fun v w=>∃b,v=ptr b∧V0.heap.size≤b∧Blk w b 56 #[.slice none 0 0,.slice none 0 0,.int .i64 0,.slice none 0 0]|10=>fun _ _=>True|_=>fun _ _=>True:Nat→Value→World→Prop) j x u':=by
  intro j x u u' h hP
  match j,h with
  |0,h=>exact h
  |1,h=>exact h
  |2,h=>replace h:∃g A n c,x= .agg #[.bool g,.slice A n c]∧ZR u (.agg #[.bool g,.slice A n c]) rest:=h;obtain⟨g,A,n,c,e,h⟩:=h;exact⟨g,A,n,c,e,h.frT hP (NT.typed (u':=u') (by decide))⟩
  |3,h=>replace h:∃g A n c,x= .agg #[.bool g,.slice A n c,.pointer none]∧ZR u (.agg #[.bool g,.slice A n c]) rest:=h;obtain⟨g,A,n,c,e,h⟩:=h;exact⟨g,A,n,c,e,h.frT hP (NT.typed (u':=u') (by decide))⟩
  |4,h=>exact h
  |5,h=>exact h
  |6,h=>replace h:∃s A n c,x= .agg #[.int .i64 s,.slice A n c]∧NZ_ u 9223372036854775808 (.agg #[.int .i64 s,.slice A n c]):=h;obtain⟨s,A,n,c,e,h⟩:=h;exact⟨s,A,n,c,e,h.frT hP (NT.typed (u':=u') (by decide))⟩
  |7,h=>replace h:∃s A n c,x= .agg #[.slice none 0 0,.slice none 0 0,.int .i64 s,.slice A n c]∧NZ_ u 9223372036854775808 (.agg #[.int .i64 s,.slice A n c]):=h;obtain⟨s,A,n,c,e,h⟩:=h;exact⟨s,A,n,c,e,h.frT hP (NT.typed (u':=u') (by decide))⟩
  |8,h=>exact h
  |9,h=>replace h:∃b,x=ptr b∧V0.heap.size≤b∧Blk u b 56 #[.slice none 0 0,.slice none 0 0,.int .i64 0,.slice none 0 0]:=h;obtain⟨b,e,h,h'⟩:=h;exact⟨b,e,h,h'.nt (by decide) hP⟩
  |10,h=>exact h
  |_+11,_=>exact trivial
 refine zag 11 (OJ V0 (fun io=>match io with|0=>fun v _=>v= .pointer (some ⟨w.heap.size,1,none⟩)|1=>fun v _=>v= .int .i64 rest|2=>fun v w=>∃g A n c,v= .agg #[.bool g,.slice A n c]∧ZR w (.agg #[.bool g,.slice A n c]) rest|3=>fun v w=>∃g A n c,v= .agg #[.bool g,.slice A n c,.pointer none]∧ZR w (.agg #[.bool g,.slice A n c]) rest|4=>fun v _=>v= .pointer (some ⟨w.heap.size,1,none⟩)|5=>fun v _=>v= .int .i64 rest|6=>fun v w=>∃s A n c,v= .agg #[.int .i64 s,.slice A n c]∧NZ_ w 9223372036854775808 (.agg #[.int .i64 s,.slice A n c])|7=>fun v w=>∃s A n c,v= .agg #[.slice none 0 0,.slice none 0 0,.int .i64 s,.slice A n c]∧NZ_ w 9223372036854775808 (.agg #[.int .i64 s,.slice A n c])|8=>fun _ _=>True|9=>fun v w=>∃b,v=ptr b∧V0.heap.size≤b∧Blk w b 56 #[.slice none 0 0,.slice none 0 0,.int .i64 0,.slice none 0 0]|10=>fun _ _=>True|_=>fun _ _=>True) 3 8 10) [some 9,some 10,some 11,some 12,some 13,some 14,some 15,some 16,some 5,some 6,none] (by kernel_rfl) (by kernel_rfl) rfl (fun _=>OJ.start (by rw [hV0];exact(Pu.refl W).drew)) ?_ ?_
 ·refine ze.cons [] rfl (by kernel_rfl) (fun y Lb V z o B K k=>?_) ?_
  ·try dsimp only at k
   simp only [PU,Nat.reduceEqDiff,Nat.reduceAdd,reduceIte]at k⊢;have t:=B.pu;rw [hV0]at t;go_simp;exact k.out _ _ (B.keep af 0 z (by decide) (Pu.refl _) (fun _=>rfl) (fun e=>absurd e (by decide)))
  refine ze.cons [0] rfl (by kernel_rfl) (fun y Lb V z o B K k=>?_) ?_
  ·try dsimp only at k
   simp only [PU,Nat.reduceEqDiff,Nat.reduceAdd,reduceIte]at k⊢;have t:=B.pu;rw [hV0]at t;have e0:=B.f 0 (by decide) (o 0 (by simp))
   try dsimp only at e0
   have v0:y 0= .pointer (some ⟨w.heap.size,1,none⟩):=e0;simp only [v0]at k⊢;have x1:=t.cellv d1;go_simp;exact k.out _ _ (B.keep af 1 z (by decide) (Pu.refl _) (fun _=>rfl) (fun e=>absurd e (by decide)))
  refine ze.cons [1] rfl (by kernel_rfl) (fun y Lb V z o B K k=>?_) ?_
  ·try dsimp only at k
   simp only [PU,Nat.reduceEqDiff,Nat.reduceAdd,reduceIte]at k⊢;have t:=B.pu;rw [hV0]at t;have e1:=B.f 1 (by decide) (o 1 (by simp))
   try dsimp only at e1
   have v1:y 1= .int .i64 rest:=e1;simp only [v1]at k⊢;go_simp;go_at_call 30;refine(zaG rest _ eE dO).mono ?_;rintro e u1 ⟨v,rfl,aq,p1⟩;obtain⟨g,A,n,c,rfl⟩:=aq.shape2;go_wp2_with fail;exact k.out _ _ (B.keep af 2 z (by decide) p1 (fun _=>⟨g,A,n,c,rfl,aq⟩) (fun e=>absurd e (by decide)))
  refine ze.cons [2] rfl (by kernel_rfl) (fun y Lb V z o B K k=>?_) ?_
  ·try dsimp only at k
   simp only [PU,Nat.reduceEqDiff,Nat.reduceAdd,reduceIte]at k⊢;have t:=B.pu;rw [hV0]at t;have G:=B.f 2 (by decide) (o 2 (by simp))
   try dsimp only at G
   obtain⟨g2,A2,n2,c2,v2,h2⟩:=G;simp only [v2]at k⊢;go_simp;go_at_call 32;refine(zm0 _ rest _ h2).mono ?_;rintro e u1 ⟨g,A,n,c,rfl,bT,p1⟩;go_wp2_with fail;exact k.out _ _ (B.keep af 3 z (by decide) p1 (fun _=>⟨g,A,n,c,rfl,bT⟩) (fun e=>absurd e (by decide)))
  refine ze.cons [] rfl (by kernel_rfl) (fun y Lb V z o B K k=>?_) ?_
  ·try dsimp only at k
   simp only [PU,Nat.reduceEqDiff,Nat.reduceAdd,reduceIte]at k⊢;have t:=B.pu;rw [hV0]at t;go_simp;exact k.out _ _ (B.keep af 4 z (by decide) (Pu.refl _) (fun _=>rfl) (fun e=>absurd e (by decide)))
  refine ze.cons [4] rfl (by kernel_rfl) (fun y Lb V z o B K k=>?_) ?_
  ·try dsimp only at k
   simp only [PU,Nat.reduceEqDiff,Nat.reduceAdd,reduceIte]at k⊢;have t:=B.pu;rw [hV0]at t;have e4:=B.f 4 (by decide) (o 4 (by simp))
   try dsimp only at e4
   have v4:y 4= .pointer (some ⟨w.heap.size,1,none⟩):=e4;simp only [v4]at k⊢;have x1:=t.cellv d1;go_simp;exact k.out _ _ (B.keep af 5 z (by decide) (Pu.refl _) (fun _=>rfl) (fun e=>absurd e (by decide)))
  refine ze.cons [5] rfl (by kernel_rfl) (fun y Lb V z o B K k=>?_) ?_
  ·try dsimp only at k
   simp only [PU,Nat.reduceEqDiff,Nat.reduceAdd,reduceIte]at k⊢;have t:=B.pu;rw [hV0]at t;have e5:=B.f 5 (by decide) (o 5 (by simp))
   try dsimp only at e5
   have v5:y 5= .int .i64 rest:=e5;simp only [v5]at k⊢;go_simp;go_at_call 44;refine(ziU rest _ eE dO).mono ?_;rintro e u1 ⟨v,yz,rfl,aq,hy,p1⟩;obtain⟨s,A,n,c,rfl⟩:=aq.raw;go_wp2_with fail;exact k.out _ _ (B.keep af 6 z (by decide) p1 (fun _=>⟨s,A,n,c,rfl,⟨yz,aq,by omega⟩⟩) (fun e=>absurd e (by decide)))
  refine ze.cons [6] rfl (by kernel_rfl) (fun y Lb V z o B K k=>?_) ?_
  ·try dsimp only at k
   simp only [PU,Nat.reduceEqDiff,Nat.reduceAdd,reduceIte]at k⊢;have t:=B.pu;rw [hV0]at t;have e6:=B.f 6 (by decide) (o 6 (by simp))
   try dsimp only at e6
   obtain⟨s6,A6,n6,c6,v6,h6⟩:=e6;simp only [v6]at k⊢;go_simp;exact k.out _ _ (B.keep af 7 z (by decide) (Pu.refl _) (fun _=>⟨_,_,_,_,rfl,h6⟩) (fun e=>absurd e (by decide)))
  refine ze.cons [] rfl (by kernel_rfl) (fun y Lb V z o B K k=>?_) ?_
  ·try dsimp only at k
   simp only [PU,Nat.reduceEqDiff,Nat.reduceAdd,reduceIte]at k⊢;have t:=B.pu;rw [hV0]at t;go_simp;exact k.out _ _ (B.keep af 8 z (by decide) ((Pu.refl _).alloc _) (fun _=>trivial) (fun _=>⟨rfl,⟨_,_,_,_,_,Blk.new _ _ _⟩⟩))
  refine ze.cons [] rfl (by kernel_rfl) (fun y Lb V z o B K k=>?_) ?_
  ·try dsimp only at k
   simp only [PU,Nat.reduceEqDiff,Nat.reduceAdd,reduceIte]at k⊢;have t:=B.pu;rw [hV0]at t;go_simp;exact k.out _ _ (B.keep af 9 z (by decide) ((Pu.refl _).alloc _) (fun _=>⟨_,rfl,by rw [hV0];exact t.size,Blk.new _ _ _⟩) (fun e=>absurd e (by decide)))
  refine ze.cons [3,8] rfl (by kernel_rfl) (fun y Lb V z o B K k=>?_) ?_
  ·try dsimp only at k
   simp only [PU,Nat.reduceEqDiff,Nat.reduceAdd,reduceIte]at k⊢;have t:=B.pu;have I:=B.f 3 (by decide) (o 3 (by simp))
   try dsimp only at I
   obtain⟨g3,A3,n3,c3,v3,h3⟩:=I;obtain⟨b,eb,gd,g',A',n',c',m',kb⟩:=B.al (o 8 (by simp));obtain⟨x0,x1,x2⟩:=kb.c3_;obtain⟨f0,f1,f2⟩:=kb.z3_;obtain⟨P,eR⟩:=zb1 kb (.bool g3) (.slice A3 n3 c3) (.pointer none);simp only [v3,eb]at k⊢;go_simp;exact k.out undef _ (B.store af z (by decide) trivial ⟨_,_,_,_,_,kb⟩ gd eR P (o 3 (by simp)) (o 8 (by simp)) eb v3)
  exact ze.nil
 ·intro y V Lb hL B;have v0:y 0= .pointer (some ⟨w.heap.size,1,none⟩):=B.f 0 (by decide) (hL 0 (by decide));have v1:y 1= .int .i64 rest:=B.f 1 (by decide) (hL 1 (by decide));have v4:y 4= .pointer (some ⟨w.heap.size,1,none⟩):=B.f 4 (by decide) (hL 4 (by decide));have v5:y 5= .int .i64 rest:=B.f 5 (by decide) (hL 5 (by decide));have f3:=B.f 3 (by decide) (hL 3 (by decide));have f7:=B.f 7 (by decide) (hL 7 (by decide));have f9:=B.f 9 (by decide) (hL 9 (by decide));obtain⟨-,-,T,g,A,n,c,m,e8,I,kA⟩:=B.st (hL 10 (by decide));obtain⟨gv,cU,cM,-⟩:=B.al (hL 8 (by decide));have t:=B.pu;rw [hV0]at t cM;clear B af
  try dsimp only at f3 f7 f9
  obtain⟨g',A',n',c',v3,bT⟩:=f3;obtain⟨s,A2,n2,c2,v7,bo⟩:=f7;obtain⟨b6,v9,cO,O⟩:=f9;rw [hV0]at cO;clear hV0;rw [e8]at cU;have hb:T=gv:=by injection cU with e;injection e with e;injection e with e
  subst hb;clear cU;rw [v3]at I;injection I with I;simp at I;obtain⟨rfl,⟨rfl,rfl,rfl⟩,rfl⟩:=I;simp only [PU,Nat.reduceEqDiff,Nat.reduceAdd,reduceIte];simp only [e8,v3,v7,v9,v0,v1,v4,v5];generalize y 2=y2;generalize y 6=y6;clear e8 v3 v7 v9 v0 v1 v4 v5;have b8:T≠b6:=kA.ne_ O (by decide);obtain⟨hv,hN,hE,hG⟩:=O.c4_;obtain⟨ho,hM,hr,hu⟩:=O.z4_;have fH:¬(T=b6):=b8;obtain⟨bB,e4⟩:=zdO O (.slice none 0 0) (.slice none 0 0) (.int .i64 s) (.slice A2 n2 c2);have d7:=t.step e4 (fun j H=>by have e':j=b6:=H;omega);have bs:=kA.fr e4 fH;have cs:=bT.frT e4 (zab O (by decide));have cq:=bo.frT e4 (zab O (by decide));have HF:=Qh (AI d7 (AI bs (AI bB (AI cs cq))));clear bT bo e4 d7 bs bB cs cq kA O t;go_wp2_with fail;exact Key.out _ _ _ _ _ _ _ _ _ _ _ _ _ _ _ _ _ _ _ _ _ _ _ _ _ _ _ _ _ _ _ _ _ _ _ _ _ _ _ _ _ _ _ _ _ _ _ _ _ _ _ _ _ _ _ _ _ _ _ _ _ _ _ _ _ _ _ _ _ _ _ T b6 _ _ _ _ s A2 n2 c2 _ cM cO b8 HF.out.1 HF.out.2.1 HF.out.2.2.1 HF.out.2.2.2.1 HF.out.2.2.2.2
end
end Go.Proofs.YtckfnbckoclhpaaGreatDoor
