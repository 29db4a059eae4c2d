/- The document's terms. -/
import Derived.Shelf.SlSortCmp.NoneTotal
import Derived.Shelf.SlSortCmp.WholeK
import Derived.Ground.SlsfProg
import Derived.Lib.Builder
import Derived.Test.YtckfnbckoclhpaaGreatDoorE24
import Derived.Test.YtckfnbckoclhpaaGreatDoorCH
import Derived.Deep.RegionHeld3
import Derived.Deep.RegionLaw
import Derived.Deep.QuietTactic
import Derived.StillTailTactics
namespace Go.Proofs.YtckfnbckoclhpaaGreatDoor
set_option linter.unusedVariables false
set_option linter.unusedSimpArgs false
set_option maxRecDepth 100000
set_option maxHeartbeats 16000000
section
open Go.RowKit
theorem ziz{w:World}{A:Option Addr}{n c i:Nat}{o:List Key}(h:Sl w 1 A n c (kts o))(p:i<n):∃(b off:Nat) (k:Key),A=some ⟨b,off,none⟩∧b<w.heap.size∧w.cell? ⟨b,off+i,none⟩=some (.string ⟨k.toArray⟩):=by
 obtain⟨b,off,u,v,x,j,t⟩:=h.at_ p;unfold kts at j;rw [List.getElem?_map]at j
 cases e:o[i]? with
 |none=>rw [e]at j;cases j
 |some k=>rw [e]at j;injection j with j;exact⟨b,off,k,v,x,by rw [t,←j]⟩
theorem znk{w:World}{A:Option Addr}{n c i:Nat}{L:List RawZ}(h:Sl w 2 A n c (cat RawZ.cells L))(p:i<n):∃q b off,L[i]?=some q∧A=some ⟨b,off,none⟩∧b<w.heap.size∧w.cell? ⟨b,off+i*2,none⟩=some (.int .i64 q.s)∧w.cell? ⟨b,off+i*2+1,none⟩=some (.slice q.A q.n q.c):=by
 have t:L.length=n:=Sl.clen RawZ.cells_len (by decide) h;obtain⟨q,hq⟩:∃q,L[i]?=some q:=⟨_,List.getElem?_eq_getElem (by omega)⟩
 obtain⟨b,off,k,o,j⟩:=zjH RawZ.cells_len (by decide) h hq;exact⟨q,b,off,hq,k,o,j 0 _ rfl,j 1 _ rfl⟩
structure zem(Z wr:World)(b7 n':Nat)(An:Option Addr)(cn:Nat)(Af:Option Addr)(cf:Nat)(r:RawZ)(B:Nat):Prop where
 blk:Blk wr b7 56 #[.slice An n' cn,.slice Af n' cf,.int .i64 r.s,.slice r.A r.n r.c]
 to:TO wr Z.heap.size An n' cn Af cf r B
 fr:Fr (fun j=>j=b7∨Z.heap.size≤j) Z wr
theorem zem.pu{Z wr:World}{j i:Nat}{k:Option Addr}{t:Nat}{v:Option Addr}{o:Nat}{r:RawZ}{B:Nat}(h:zem Z wr j i k t v o r B){w':World}(p:Pu wr w'):zem Z w' j i k t v o r B:=⟨h.blk.pu p,h.to.pu p,h.fr.pu p⟩
theorem zem.next{Z wr:World}{k I:Nat}{F:Option Addr}{G:Nat}{H:Option Addr}{E:Nat}{r:RawZ}{B:Nat}(h:zem Z wr k I F G H E r B)(L:k<Z.heap.size){x:World}{w:Option Addr}{o v:Nat}{p:Option Addr}{t:Nat}(J:TO x Z.heap.size w o v p t r B)(C:Fr (fun j=>Z.heap.size≤j) wr x):zem Z ((((x.setCell ⟨k,0,none⟩ (.slice w o v)).setCell ⟨k,1,none⟩ (.slice p o t)).setCell ⟨k,2,none⟩ (.int .i64 r.s)).setCell ⟨k,3,none⟩ (.slice r.A r.n r.c)) k o w v p t r B:=by have z:=h.blk.fr C (by show¬Z.heap.size≤k;omega);obtain⟨K,e⟩:=zdO z (.slice w o v) (.slice p o t) (.int .i64 r.s) (.slice r.A r.n r.c);exact⟨K,J.frT e (fun g D=>by subst D;exact⟨_,_,_,z,by decide⟩),(h.fr.step C (fun i y=> .inl (.inr y))).step e (fun i y=> .inl (.inl y))⟩
theorem zo5{u:World}{s:Int}{A:Option Addr}{n c B:Nat}(h:NZ_ u B (.agg #[.int .i64 s,.slice A n c])):zem (u.alloc (.cells #[.slice none 0 0,.slice none 0 0,.int .i64 s,.slice A n c] 56)) (u.alloc (.cells #[.slice none 0 0,.slice none 0 0,.int .i64 s,.slice A n c] 56)) u.heap.size 0 none 0 none 0 ⟨s,A,n,c⟩ B:=⟨Blk.new _ _ _,TO.nil (h.pu ((Pu.refl _).alloc _)),Fr.refl _ _⟩
theorem zpN{u:World}{b:Nat}{s:Int}{A:Option Addr}{n c B:Nat}(k:Blk u b 56 #[.slice none 0 0,.slice none 0 0,.int .i64 0,.slice none 0 0])(h:NZ_ u B (.agg #[.int .i64 s,.slice A n c])):zem ((((u.setCell ⟨b,0,none⟩ (.slice none 0 0)).setCell ⟨b,1,none⟩ (.slice none 0 0)).setCell ⟨b,2,none⟩ (.int .i64 s)).setCell ⟨b,3,none⟩ (.slice A n c)) ((((u.setCell ⟨b,0,none⟩ (.slice none 0 0)).setCell ⟨b,1,none⟩ (.slice none 0 0)).setCell ⟨b,2,none⟩ (.int .i64 s)).setCell ⟨b,3,none⟩ (.slice A n c)) b 0 none 0 none 0 ⟨s,A,n,c⟩ B:=by obtain⟨i,e⟩:=zdO k (.slice none 0 0) (.slice none 0 0) (.int .i64 s) (.slice A n c);exact⟨i,TO.nil (h.frT e (zab k (by decide))),Fr.refl _ _⟩
theorem zr9(u:World)(a b c d:Addr)(x y z v:Value):((((u.setCell a x).setCell b y).setCell c z).setCell d v).heap.size=u.heap.size:=by simp [World.setCell]
theorem zlN(Bt Bu B:Nat)(An:Option Addr)(n cn:Nat)(Af:Option Addr)(cf:Nat)(r:RawZ)(Am:Option Addr)(m cm:Nat)(Ag:Option Addr)(cg:Nat)(r2:RawZ)(q:RawZ)(z:Int)(w:World)(ht:TR w An n cn Af cf r Bt)(hu:TR w Am m cm Ag cg r2 Bu)(hz:RZ w q.val z) (hB:Bt+Bu*z.natAbs≤B) (ba:B<10^200) (es:z.natAbs<10^200) (cG:Bu<10^200) (hn:n+m≤900):Calls Tryz.prog 45 #[zjg An n cn Af n cf r,zjg Am m cm Ag m cg r2,q.val] w fun e w'=>∃An' I cn' Af' cf' r',e= .returned (zjg An' I cn' Af' I cf' r')∧I≤n+m∧TR w' An' I cn' Af' cf' r' B∧Pu w w':=by
 obtain⟨qs,qA,qn,qc⟩:=q;obtain⟨rs,rA,rn,rc⟩:=r;obtain⟨us,uA,un,uc⟩:=r2;unfold zjg;unfold RawZ.val at hz⊢;dsimp only at hz⊢;obtain⟨W,hWe⟩:∃W,W=(((w.alloc (.cells #[.slice An n cn,.slice Af n cf,.int .i64 rs,.slice rA rn rc] 56)).alloc (.cells #[.slice Am m cm,.slice Ag m cg,.int .i64 us,.slice uA un uc] 56)).alloc (.cells #[.int .i64 qs,.slice qA qn qc] 54)).alloc (.cells #[.slice none 0 0,.slice none 0 0,.int .i64 0,.slice none 0 0] 56):=⟨_,rfl⟩
 have pW:Pu w W:=by rw [hWe];exact((((Pu.refl w).alloc _).alloc _).alloc _).alloc _
 have k3:Blk W w.heap.size 56 #[.slice An n cn,.slice Af n cf,.int .i64 rs,.slice rA rn rc]:=by rw [hWe];exact(((Blk.new w _ _).alloc _).alloc _).alloc _
 have k4:Blk W (w.heap.size+1) 56 #[.slice Am m cm,.slice Ag m cg,.int .i64 us,.slice uA un uc]:=by rw [hWe];exact((Blk.at_new _ _ _ (by simp)).alloc _).alloc _
 have k5:Blk W (w.heap.size+1+1) 54 #[.int .i64 qs,.slice qA qn qc]:=by rw [hWe];exact(Blk.at_new _ _ _ (by simp)).alloc _
 have k6:Blk W (w.heap.size+1+1+1) 56 #[.slice none 0 0,.slice none 0 0,.int .i64 0,.slice none 0 0]:=by rw [hWe];exact Blk.at_new _ _ _ (by simp)
 have fo:=Qh (show W.heap.size=w.heap.size+4 by rw [hWe];simp);have fk:=Qh hWe;have dg:Bt≤B:=Nat.le_trans (Nat.le_add_right _ _) hB;have ao:=Qh (show∀V v,Pu w V→NZ_ V Bu v→Calls Tryz.prog 79 #[v,.agg #[.int .i64 qs,.slice qA qn qc]] V fun e w'=>∃(y:Int) (s:Int) (A:Option Addr) (n c:Nat),e= .returned (.agg #[.int .i64 s,.slice A n c])∧RZ w' (.agg #[.int .i64 s,.slice A n c]) y∧Bt+y.natAbs≤B∧Pu V w' from fun V v p hv=>by obtain⟨x,h1,h2⟩:=hv;refine(zoK v _ x z V h1 (hz.pu p) (Nat.lt_of_le_of_lt h2 cG) es).mono ?_;rintro e w' ⟨v',rfl,h3,h4⟩;obtain⟨s,A,n,c,rfl⟩:=h3.raw;refine⟨x*z,s,A,n,c,rfl,h3,?_,h4⟩;rw [Int.natAbs_mul];exact Nat.le_trans (Nat.add_le_add_left (Nat.mul_le_mul_right _ h2) _) hB);have bS:=Qh (show∀V v P (y:Int),NZ_ V Bt v→RZ V P y→Bt+y.natAbs≤B→Calls Tryz.prog 78 #[v,P] V fun e w'=>∃(s:Int) (A:Option Addr) (n c:Nat),e= .returned (.agg #[.int .i64 s,.slice A n c])∧NZ_ w' B (.agg #[.int .i64 s,.slice A n c])∧Pu V w' from fun V v P y hv h2 hy=>by obtain⟨x,h1,h3⟩:=hv;refine(zp3 v P x y V h1 h2 (Nat.lt_of_le_of_lt (Nat.le_trans h3 dg) ba) (Nat.lt_of_le_of_lt (Nat.le_trans (Nat.le_add_left _ _) hy) ba)).mono ?_;rintro e w' ⟨v',rfl,h4,h5⟩;obtain⟨s,A,n,c,rfl⟩:=h4.raw;exact⟨s,A,n,c,rfl,⟨_,h4,Nat.le_trans (Nat.le_trans (Int.natAbs_add_le _ _) (Nat.add_le_add_right h3 _)) hy⟩,h5⟩);obtain⟨⟨ks,dz⟩,⟨L,cU,el⟩,ai⟩:=ht;obtain⟨⟨fE,cJ⟩,⟨L2,dQ,O⟩,aj⟩:=hu;have HT:=Qh (AI dz (AI cU (AI el ai)));have HU:=Qh (AI cJ (AI dQ (AI O aj)));clear hWe dz cU el ai cJ dQ O aj hz hB ba es cG;go_enter Tryz.func45,Tryz.ntmps45;go_wp2_with fail;rw [←fk.out];rename_i K1 bw;have de:∀(x0 x1 x2 x8 x9 dt d7 cL dX et e4 eb dn dS dP cH cQ dB dy du ee ec dK cS dw dR ds dG dZ d8 dC ei da c8 dW cN d9 dd cC c9 e6 ea cD e5 cF cE cR dL e3 dv en cX eo ej cP d6 db eg dI dh dO dN cY ef dU ed df eh dc cB cV cZ er cA ek dr eu cO ey dJ di cW ez dA cI dT dV ew dj dM dk ep cT cK dF bD bb b5 bN bt bL bO bk bl bu aZ b0 b6 bE bC bB bi bg bq bp bf bH bs bj bF bM b8 bT:Value) (F:Nat) (s:Int) (A:Option Addr) (S c:Nat) (Z:World),w.heap.size+4≤F→F<Z.heap.size→zem Z Z F 0 none 0 none 0 ⟨s,A,S,c⟩ B→Pu W Z→K1 {tmps:=#[x0,x1,x2,ptr w.heap.size,ptr (w.heap.size+1),ptr (w.heap.size+1+1),ptr (w.heap.size+1+1+1),ptr F,x8,x9,dt,d7,cL,dX,et,e4,eb,dn,dS,dP,cH,cQ,dB,dy,du,ee,ec,dK,cS,dw,dR,ds,dG,dZ,d8,dC,ei,da,c8,dW,cN,d9,dd,cC,c9,e6,ea,cD,e5,cF,cE,cR,dL,e3,dv,en,cX,eo,ej,cP,d6,db,eg,dI,dh,dO,dN,cY,ef,dU,ed,df,eh,dc,cB,cV,cZ,er,cA,ek,dr,eu,cO,ey,dJ,di,cW,ez,dA,cI,dT,dV,ew,dj,dM,dk,ep,cT,cK,dF,bD,bb,b5,bN,bt,bL,bO,bk,bl,bu,aZ,b0,b6,bE,bC,bB,bi,bg,bq,bp,bf,bH,bs,bj,bF,bM,b8,bT],defers:=[]} Z:=by
  intro x0 x1 x2 x8 x9 dt d7 cL dX et e4 eb dn dS dP cH cQ dB dy du ee ec dK cS dw dR ds dG dZ d8 dC ei da c8 dW cN d9 dd cC c9 e6 ea cD e5 cF cE cR dL e3 dv en cX eo ej cP d6 db eg dI dh dO dN cY ef dU ed df eh dc cB cV cZ er cA ek dr eu cO ey dJ di cW ez dA cI dT dV ew dj dM dk ep cT cK dF bD bb b5 bN bt bL bO bk bl bu aZ b0 b6 bE bC bB bi bg bq bp bf bH bs bj bF bM b8 bT F s A S c Z fK aF fd pZ;refine bw _ _ ?_;clear bw;have eW:Pu w Z:=pW.trans pZ;have ff:=k3.pu pZ;have eV:=k4.pu pZ;have eU:=k5.pu pZ;have fm:=k6.pu pZ;have fG:w.heap.size+1+1+1<F:=by omega
  go_wp2_with fail
  go_loopw [8,9] (fun iv kv wr=>∃(i k I:Nat) (A1:Option Addr) (c1:Nat) (X:Option Addr) (U:Nat),iv= .int .i64 (i:Int)∧kv= .int .i64 (k:Int)∧i≤n∧k≤m∧I≤i+k∧zem Z wr F I A1 c1 X U ⟨s,A,S,c⟩ B) (fun iv kv _=>(n - (intOf iv).toNat)+(m - (intOf kv).toNat))
  case atStart=>exact⟨0,0,0,none,0,none,0,rfl,rfl,Nat.zero_le _,Nat.zero_le _,Nat.le_refl _,fd⟩
  case round=>
   obtain⟨i,k,I,A1,c1,X,U,rfl,rfl,hi,hk,fi,E⟩:=hrel;have fC:w.heap.size+4<Z.heap.size:=by omega
   have H:Pu w wr:=eW.step E.fr (fun j hj=>by rcases hj with hj|hj<;>omega);have l3:=ff.fr E.fr (by show¬(w.heap.size=F∨Z.heap.size≤w.heap.size);omega);have l4:=eV.fr E.fr (by show¬(w.heap.size+1=F∨Z.heap.size≤w.heap.size+1);omega);have l5:=eU.fr E.fr (by show¬(w.heap.size+1+1=F∨Z.heap.size≤w.heap.size+1+1);omega);have l6:=fm.fr E.fr (by show¬(w.heap.size+1+1+1=F∨Z.heap.size≤w.heap.size+1+1+1);omega);have a0:wr.cell? ⟨w.heap.size,0,none⟩=some (.slice An n cn):=l3.cell 0;have a1:wr.cell? ⟨w.heap.size,1,none⟩=some (.slice Af n cf):=l3.cell 1;have e0:wr.cell? ⟨w.heap.size+1,0,none⟩=some (.slice Am m cm):=l4.cell 0;have e1:wr.cell? ⟨w.heap.size+1,1,none⟩=some (.slice Ag m cg):=l4.cell 1;have q0:wr.cell? ⟨w.heap.size+1+1,0,none⟩=some (.int .i64 qs):=l5.cell 0;have q1:wr.cell? ⟨w.heap.size+1+1,1,none⟩=some (.slice qA qn qc):=l5.cell 1;have v0:wr.cell? ⟨F,0,none⟩=some (.slice A1 I c1):=E.blk.cell 0;have v1:wr.cell? ⟨F,1,none⟩=some (.slice X I U):=E.blk.cell 1;have P:wr.cell? ⟨F,2,none⟩=some (.int .i64 s):=E.blk.cell 2;have v3:wr.cell? ⟨F,3,none⟩=some (.slice A S c):=E.blk.cell 3;have Hw:=Qh (fun V (p:Pu wr V) (R:Key) (q:RawZ) (hq:NZ_ V B q.val)=>zpA Z.heap.size A1 I c1 X U ⟨s,A,S,c⟩ B R q V (E.to.pu p) hq (Nat.le_trans E.fr.size p.size) (by omega));unfold zjg RawZ.val at Hw;dsimp only at Hw;have fN:IntKind.i64.wrap ((i:Int)+1)=(i:Int)+1:=IntWalk.i64_in _ (by omega);have fD:IntKind.i64.wrap ((k:Int)+1)=(k:Int)+1:=IntWalk.i64_in _ (by omega);by_cases c7:i<n
   ·obtain⟨b1,o1,R,rfl,fH,aC⟩:=ziz HT.out.1 c7;obtain⟨fq,b2,o2,dH,rfl,fJ,ak,am⟩:=znk HT.out.2.1 c7;replace aC:=H.cellv aC;replace ak:=H.cellv ak;replace am:=H.cellv am;have ax:NZ_ wr Bt fq.val:=(HT.out.2.2.1 fq (List.mem_of_getElem? dH)).pu H;have aQ:=ax.le dg;have fu:((i:Int)==(n:Int))=false:=by simp;omega
    obtain⟨fs,fA,fn,fc⟩:=fq;unfold RawZ.val at ax aQ;dsimp only at ak am ax aQ;clear dH;by_cases aE:k<m
    ·obtain⟨b3,o3,tu,rfl,eX,Q⟩:=ziz HU.out.1 aE;obtain⟨uq,b4,Y,aA,rfl,eT,J,N⟩:=znk HU.out.2.1 aE;replace Q:=H.cellv Q;replace J:=H.cellv J;replace N:=H.cellv N;have O:NZ_ wr Bu uq.val:=(HU.out.2.2.1 uq (List.mem_of_getElem? aA)).pu H;have eC:((k:Int)==(m:Int))=false:=by simp;omega
     obtain⟨aS,aT,aV,aU⟩:=uq;unfold RawZ.val at O;dsimp only at J N O;clear aA;have l1:=zf9 R tu;have l2:=zf9 tu R;rcases zij R tu with h|h|h
     ·rw [decide_eq_true h]at l1;rw [decide_eq_false (fun h'=>zev R (zdC h h'))]at l2;clear h;go_wp2_with fail
      go_quiet (fail)
      obtain⟨q1n,rfl⟩:∃q,q=nq:=⟨_,rfl⟩
      go_wp2_with fail;have o:Pu wr (wr.drewN q1n).drew:=Pu.drew (Pu.drewN (Pu.refl wr) q1n)
      go_still_tail 11,(by kernel_rfl)
      simp only [World.drew_eq]
      repeat still_step
      try refine wpStill_nil ?_
      go_wp2_with fail;refine(Hw.out _ o R ⟨fs,fA,fn,fc⟩ (aQ.pu o)).mono ?_;rintro x u5 ⟨A3,n3,c3,A4,c4,rfl,aR,M,G⟩;have D:=(E.blk.pu o).fr G (by show¬Z.heap.size≤F;omega);obtain⟨y0,y1,y2,y3⟩:=D.c4_;obtain⟨g0,g1,g2,g3⟩:=D.z4_;have HN:=Qh ((E.pu o).next aF M G);clear M G D o;go_wp2;go_roundw
      case rel=>exact⟨i+1,k,n3,A3,c3,A4,c4,by go_num,by go_num,by omega,by omega,by omega,HN.out⟩
      case measure=>simp [intOf];omega
     ·subst h;rw [decide_eq_false (zev R)]at l1 l2;go_wp2_with fail
      go_quiet (fail)
      obtain⟨q1n,rfl⟩:∃q,q=nq:=⟨_,rfl⟩
      go_wp2_with fail
      go_quiet (fail)
      obtain⟨q2n,rfl⟩:∃q,q=nq:=⟨_,rfl⟩
      go_wp2_with fail;have o:Pu wr ((wr.drewN q1n).drewN q2n).drew:=Pu.drew (Pu.drewN (Pu.drewN (Pu.refl wr) q1n) q2n);refine zeF 19 (fun t=>t.cell? ⟨w.heap.size,0,none⟩=some (.slice (some ⟨b1,o1,none⟩) n cn)∧t.cell? ⟨w.heap.size,1,none⟩=some (.slice (some ⟨b2,o2,none⟩) n cf)∧t.cell? ⟨b1,o1+i,none⟩=some (.string ⟨R.toArray⟩)∧t.cell? ⟨b2,o2+i*2,none⟩=some (.int .i64 fs)∧t.cell? ⟨b2,o2+i*2+1,none⟩=some (.slice fA fn fc)∧t.cell? ⟨w.heap.size+1,1,none⟩=some (.slice (some ⟨b4,Y,none⟩) m cg)∧t.cell? ⟨b4,Y+k*2,none⟩=some (.int .i64 aS)∧t.cell? ⟨b4,Y+k*2+1,none⟩=some (.slice aT aV aU)∧t.cell? ⟨w.heap.size+1+1,0,none⟩=some (.int .i64 qs)∧t.cell? ⟨w.heap.size+1+1,1,none⟩=some (.slice qA qn qc)∧t.cell? ⟨F,0,none⟩=some (.slice A1 I c1)∧t.cell? ⟨F,1,none⟩=some (.slice X I U)∧t.cell? ⟨F,2,none⟩=some (.int .i64 s)∧t.cell? ⟨F,3,none⟩=some (.slice A S c)) (by kernel_rfl) ⟨o.cellv a0,o.cellv a1,o.cellv aC,o.cellv ak,o.cellv am,o.cellv e1,o.cellv J,o.cellv N,o.cellv q0,o.cellv q1,o.cellv v0,o.cellv v1,o.cellv P,o.cellv v3⟩ ?_;generalize ((wr.drewN q1n).drewN q2n).drew=V at o⊢;refine zt 0 (v:=?_) (by kernel_rfl) rfl (by kernel_rfl) (fun _ _ _ h=>h) (Or.inl ⟨by rfl,?_⟩) ?_;rotate_left
      ·(intro t C;(try dsimp only at C);go_simp;try with_reducible rfl)
      simp only [Act.put,List.setIfInBounds_toArray,List.set_cons_zero,List.set_cons_succ];refine zt 1 (v:=?_) (by kernel_rfl) rfl (by kernel_rfl) (fun _ _ _ h=>h) (Or.inl ⟨by rfl,?_⟩) ?_;rotate_left
      ·(intro t C;(try dsimp only at C);go_simp;try with_reducible rfl)
      simp only [Act.put,List.setIfInBounds_toArray,List.set_cons_zero,List.set_cons_succ];refine zt 2 (v:=?_) (by kernel_rfl) rfl (by kernel_rfl) (fun _ _ _ h=>h) (Or.inl ⟨by rfl,?_⟩) ?_;rotate_left
      ·(intro t C;(try dsimp only at C);go_simp;try with_reducible rfl)
      simp only [Act.put,List.setIfInBounds_toArray,List.set_cons_zero,List.set_cons_succ];refine zt 3 (v:=?_) (by kernel_rfl) rfl (by kernel_rfl) (fun _ _ _ h=>h) (Or.inl ⟨by rfl,?_⟩) ?_;rotate_left
      ·(intro t C;(try dsimp only at C);go_simp;try with_reducible rfl)
      simp only [Act.put,List.setIfInBounds_toArray,List.set_cons_zero,List.set_cons_succ];refine zt 4 (v:=?_) (by kernel_rfl) rfl (by kernel_rfl) (fun _ _ _ h=>h) (Or.inl ⟨by rfl,?_⟩) ?_;rotate_left
      ·(intro t C;(try dsimp only at C);go_simp;try with_reducible rfl)
      simp only [Act.put,List.setIfInBounds_toArray,List.set_cons_zero,List.set_cons_succ];refine zt 5 (v:=?_) (by kernel_rfl) rfl (by kernel_rfl) (fun _ _ _ h=>h) (Or.inl ⟨by rfl,?_⟩) ?_;rotate_left
      ·(intro t C;(try dsimp only at C);go_simp;try with_reducible rfl)
      simp only [Act.put,List.setIfInBounds_toArray,List.set_cons_zero,List.set_cons_succ];refine zt 6 (v:=?_) (by kernel_rfl) rfl (by kernel_rfl) (fun _ _ _ h=>h) (Or.inl ⟨by rfl,?_⟩) ?_;rotate_left
      ·(intro t C;(try dsimp only at C);go_simp;try with_reducible rfl)
      simp only [Act.put,List.setIfInBounds_toArray,List.set_cons_zero,List.set_cons_succ];refine zt 7 (v:=?_) (by kernel_rfl) rfl (by kernel_rfl) (fun _ _ _ h=>h) (Or.inl ⟨by rfl,?_⟩) ?_;rotate_left
      ·(intro t C;(try dsimp only at C);go_simp;try with_reducible rfl)
      simp only [Act.put,List.setIfInBounds_toArray,List.set_cons_zero,List.set_cons_succ];refine zt 8 (v:=?_) (by kernel_rfl) rfl (by kernel_rfl) (fun _ _ _ h=>h) (Or.inl ⟨by rfl,?_⟩) ?_;rotate_left
      ·(intro t C;(try dsimp only at C);go_simp;try with_reducible rfl)
      simp only [Act.put,List.setIfInBounds_toArray,List.set_cons_zero,List.set_cons_succ];refine zt 9 (v:=?_) (by kernel_rfl) rfl (by kernel_rfl) (fun _ _ _ h=>h) (Or.inl ⟨by rfl,?_⟩) ?_;rotate_left
      ·(intro t C;(try dsimp only at C);go_simp;try with_reducible rfl)
      simp only [Act.put,List.setIfInBounds_toArray,List.set_cons_zero,List.set_cons_succ];refine zt 10 (v:=?_) (by kernel_rfl) rfl (by kernel_rfl) (fun _ _ _ h=>h) (Or.inl ⟨by rfl,?_⟩) ?_;rotate_left
      ·(intro t C;(try dsimp only at C);go_simp;try with_reducible rfl)
      simp only [Act.put,List.setIfInBounds_toArray,List.set_cons_zero,List.set_cons_succ];refine zt 11 (v:=?_) (by kernel_rfl) rfl (by kernel_rfl) (fun _ _ _ h=>h) (Or.inl ⟨by rfl,?_⟩) ?_;rotate_left
      ·(intro t C;(try dsimp only at C);go_simp;try with_reducible rfl)
      simp only [Act.put,List.setIfInBounds_toArray,List.set_cons_zero,List.set_cons_succ];refine zt 12 (v:=?_) (by kernel_rfl) rfl (by kernel_rfl) (fun _ _ _ h=>h) (Or.inl ⟨by rfl,?_⟩) ?_;rotate_left
      ·(intro t C;(try dsimp only at C);go_simp;try with_reducible rfl)
      simp only [Act.put,List.setIfInBounds_toArray,List.set_cons_zero,List.set_cons_succ];refine zt 13 (v:=?_) (by kernel_rfl) rfl (by kernel_rfl) (fun _ _ _ h=>h) (Or.inl ⟨by rfl,?_⟩) ?_;rotate_left
      ·(intro t C;(try dsimp only at C);go_simp;try with_reducible rfl)
      simp only [Act.put,List.setIfInBounds_toArray,List.set_cons_zero,List.set_cons_succ];refine zt 14 (v:=?_) (by kernel_rfl) rfl (by kernel_rfl) (fun _ _ _ h=>h) (Or.inl ⟨by rfl,?_⟩) ?_;rotate_left
      ·(intro t C;(try dsimp only at C);go_simp;try with_reducible rfl)
      simp only [Act.put,List.setIfInBounds_toArray,List.set_cons_zero,List.set_cons_succ];refine zt 15 (v:=?_) (by kernel_rfl) rfl (by kernel_rfl) (fun _ _ _ h=>h) (Or.inl ⟨by rfl,?_⟩) ?_;rotate_left
      ·(intro t C;(try dsimp only at C);go_simp;try with_reducible rfl)
      simp only [Act.put,List.setIfInBounds_toArray,List.set_cons_zero,List.set_cons_succ];refine zt 16 (v:=?_) (by kernel_rfl) rfl (by kernel_rfl) (fun _ _ _ h=>h) (Or.inl ⟨by rfl,?_⟩) ?_;rotate_left
      ·(intro t C;(try dsimp only at C);go_simp;try with_reducible rfl)
      simp only [Act.put,List.setIfInBounds_toArray,List.set_cons_zero,List.set_cons_succ];refine zim 17 (by kernel_rfl) rfl (by decide) (fun K T=>?_);go_simp;go_at_call 79;refine(ao.out _ _ (H.trans o) (O.pu o)).mono ?_;rintro x u2 ⟨y5,s5,A5,n5,c5,rfl,h5,a9,p9⟩;replace o:=o.trans p9;go_wp2_with fail;refine T.out _ _ ⟨o.cellv a0,o.cellv a1,o.cellv aC,o.cellv ak,o.cellv am,o.cellv e1,o.cellv J,o.cellv N,o.cellv q0,o.cellv q1,o.cellv v0,o.cellv v1,o.cellv P,o.cellv v3⟩ ?_;clear T K
      try simp only [Act.put,List.setIfInBounds_toArray,List.set_cons_zero,List.set_cons_succ]
      refine zim 18 (by kernel_rfl) rfl (by decide) (fun K T=>?_);go_simp;go_at_call 78;refine(bS.out _ _ _ y5 (ax.pu o) h5 a9).mono ?_;rintro x u3 ⟨s6,A6,n6,c6,rfl,h6,aB⟩;replace o:=o.trans aB;go_wp2_with fail;refine T.out _ _ ⟨o.cellv a0,o.cellv a1,o.cellv aC,o.cellv ak,o.cellv am,o.cellv e1,o.cellv J,o.cellv N,o.cellv q0,o.cellv q1,o.cellv v0,o.cellv v1,o.cellv P,o.cellv v3⟩ ?_;clear T K
      try simp only [Act.put,List.setIfInBounds_toArray,List.set_cons_zero,List.set_cons_succ]
      refine zgU rfl (by kernel_rfl) ?_;have dx:=o.cellv v0;have dE:=o.cellv v1;have dY:=o.cellv P;have dD:=o.cellv v3;go_wp2_with fail;refine(Hw.out _ o R ⟨s6,A6,n6,c6⟩ h6).mono ?_;rintro x u5 ⟨A3,n3,c3,A4,c4,rfl,aR,M,G⟩;have D:=(E.blk.pu o).fr G (by show¬Z.heap.size≤F;omega);have y0:=D.cell 0;have g0:=D.frozen 0;have y1:=D.cell 1;have g1:=D.frozen 1;have y2:=D.cell 2;have g2:=D.frozen 2;have y3:=D.cell 3;have g3:=D.frozen 3;have HN:=Qh ((E.pu o).next aF M G);clear M G D o;go_wp2;go_roundw
      case rel=>exact⟨i+1,k+1,n3,A3,c3,A4,c4,by go_num,by go_num,by omega,by omega,by omega,HN.out⟩
      case measure=>simp [intOf];omega
     ·rw [decide_eq_true h]at l2;rw [decide_eq_false (fun h'=>zev R (zdC h' h))]at l1;clear h;go_wp2_with fail
      go_quiet (fail)
      obtain⟨q1n,rfl⟩:∃q,q=nq:=⟨_,rfl⟩
      go_wp2_with fail
      go_quiet (fail)
      obtain⟨q2n,rfl⟩:∃q,q=nq:=⟨_,rfl⟩
      go_wp2_with fail;have o:Pu wr ((wr.drewN q1n).drewN q2n).drew:=Pu.drew (Pu.drewN (Pu.drewN (Pu.refl wr) q1n) q2n);refine zeF 13 (fun t=>t.cell? ⟨w.heap.size+1,0,none⟩=some (.slice (some ⟨b3,o3,none⟩) m cm)∧t.cell? ⟨b3,o3+k,none⟩=some (.string ⟨tu.toArray⟩)∧t.cell? ⟨w.heap.size+1,1,none⟩=some (.slice (some ⟨b4,Y,none⟩) m cg)∧t.cell? ⟨b4,Y+k*2,none⟩=some (.int .i64 aS)∧t.cell? ⟨b4,Y+k*2+1,none⟩=some (.slice aT aV aU)∧t.cell? ⟨w.heap.size+1+1,0,none⟩=some (.int .i64 qs)∧t.cell? ⟨w.heap.size+1+1,1,none⟩=some (.slice qA qn qc)∧t.cell? ⟨F,0,none⟩=some (.slice A1 I c1)∧t.cell? ⟨F,1,none⟩=some (.slice X I U)∧t.cell? ⟨F,2,none⟩=some (.int .i64 s)∧t.cell? ⟨F,3,none⟩=some (.slice A S c)) (by kernel_rfl) ⟨o.cellv e0,o.cellv Q,o.cellv e1,o.cellv J,o.cellv N,o.cellv q0,o.cellv q1,o.cellv v0,o.cellv v1,o.cellv P,o.cellv v3⟩ ?_;generalize ((wr.drewN q1n).drewN q2n).drew=V at o⊢;refine zt 0 (v:=?_) (by kernel_rfl) rfl (by kernel_rfl) (fun _ _ _ h=>h) (Or.inl ⟨by rfl,?_⟩) ?_;rotate_left
      ·(intro t C;(try dsimp only at C);go_simp;try with_reducible rfl)
      simp only [Act.put,List.setIfInBounds_toArray,List.set_cons_zero,List.set_cons_succ];refine zt 1 (v:=?_) (by kernel_rfl) rfl (by kernel_rfl) (fun _ _ _ h=>h) (Or.inl ⟨by rfl,?_⟩) ?_;rotate_left
      ·(intro t C;(try dsimp only at C);go_simp;try with_reducible rfl)
      simp only [Act.put,List.setIfInBounds_toArray,List.set_cons_zero,List.set_cons_succ];refine zt 2 (v:=?_) (by kernel_rfl) rfl (by kernel_rfl) (fun _ _ _ h=>h) (Or.inl ⟨by rfl,?_⟩) ?_;rotate_left
      ·(intro t C;(try dsimp only at C);go_simp;try with_reducible rfl)
      simp only [Act.put,List.setIfInBounds_toArray,List.set_cons_zero,List.set_cons_succ];refine zt 3 (v:=?_) (by kernel_rfl) rfl (by kernel_rfl) (fun _ _ _ h=>h) (Or.inl ⟨by rfl,?_⟩) ?_;rotate_left
      ·(intro t C;(try dsimp only at C);go_simp;try with_reducible rfl)
      simp only [Act.put,List.setIfInBounds_toArray,List.set_cons_zero,List.set_cons_succ];refine zt 4 (v:=?_) (by kernel_rfl) rfl (by kernel_rfl) (fun _ _ _ h=>h) (Or.inl ⟨by rfl,?_⟩) ?_;rotate_left
      ·(intro t C;(try dsimp only at C);go_simp;try with_reducible rfl)
      simp only [Act.put,List.setIfInBounds_toArray,List.set_cons_zero,List.set_cons_succ];refine zt 5 (v:=?_) (by kernel_rfl) rfl (by kernel_rfl) (fun _ _ _ h=>h) (Or.inl ⟨by rfl,?_⟩) ?_;rotate_left
      ·(intro t C;(try dsimp only at C);go_simp;try with_reducible rfl)
      simp only [Act.put,List.setIfInBounds_toArray,List.set_cons_zero,List.set_cons_succ];refine zt 6 (v:=?_) (by kernel_rfl) rfl (by kernel_rfl) (fun _ _ _ h=>h) (Or.inl ⟨by rfl,?_⟩) ?_;rotate_left
      ·(intro t C;(try dsimp only at C);go_simp;try with_reducible rfl)
      simp only [Act.put,List.setIfInBounds_toArray,List.set_cons_zero,List.set_cons_succ];refine zt 7 (v:=?_) (by kernel_rfl) rfl (by kernel_rfl) (fun _ _ _ h=>h) (Or.inl ⟨by rfl,?_⟩) ?_;rotate_left
      ·(intro t C;(try dsimp only at C);go_simp;try with_reducible rfl)
      simp only [Act.put,List.setIfInBounds_toArray,List.set_cons_zero,List.set_cons_succ];refine zt 8 (v:=?_) (by kernel_rfl) rfl (by kernel_rfl) (fun _ _ _ h=>h) (Or.inl ⟨by rfl,?_⟩) ?_;rotate_left
      ·(intro t C;(try dsimp only at C);go_simp;try with_reducible rfl)
      simp only [Act.put,List.setIfInBounds_toArray,List.set_cons_zero,List.set_cons_succ];refine zt 9 (v:=?_) (by kernel_rfl) rfl (by kernel_rfl) (fun _ _ _ h=>h) (Or.inl ⟨by rfl,?_⟩) ?_;rotate_left
      ·(intro t C;(try dsimp only at C);go_simp;try with_reducible rfl)
      simp only [Act.put,List.setIfInBounds_toArray,List.set_cons_zero,List.set_cons_succ];refine zt 10 (v:=?_) (by kernel_rfl) rfl (by kernel_rfl) (fun _ _ _ h=>h) (Or.inl ⟨by rfl,?_⟩) ?_;rotate_left
      ·(intro t C;(try dsimp only at C);go_simp;try with_reducible rfl)
      simp only [Act.put,List.setIfInBounds_toArray,List.set_cons_zero,List.set_cons_succ];refine zt 11 (v:=?_) (by kernel_rfl) rfl (by kernel_rfl) (fun _ _ _ h=>h) (Or.inl ⟨by rfl,?_⟩) ?_;rotate_left
      ·(intro t C;(try dsimp only at C);go_simp;try with_reducible rfl)
      simp only [Act.put,List.setIfInBounds_toArray,List.set_cons_zero,List.set_cons_succ];refine zim 12 (by kernel_rfl) rfl (by decide) (fun K T=>?_);go_simp;go_at_call 79;refine(ao.out _ _ (H.trans o) (O.pu o)).mono ?_;rintro x u2 ⟨y5,s5,A5,n5,c5,rfl,h5,a9,p9⟩;replace o:=o.trans p9;go_wp2_with fail;refine T.out _ _ ⟨o.cellv e0,o.cellv Q,o.cellv e1,o.cellv J,o.cellv N,o.cellv q0,o.cellv q1,o.cellv v0,o.cellv v1,o.cellv P,o.cellv v3⟩ ?_;clear T K
      try simp only [Act.put,List.setIfInBounds_toArray,List.set_cons_zero,List.set_cons_succ]
      refine zgU rfl (by kernel_rfl) ?_;have dx:=o.cellv v0;have dE:=o.cellv v1;have dY:=o.cellv P;have dD:=o.cellv v3;go_wp2_with fail;refine(Hw.out _ o tu ⟨s5,A5,n5,c5⟩ ⟨y5,h5,by omega⟩).mono ?_;rintro x u5 ⟨A3,n3,c3,A4,c4,rfl,aR,M,G⟩;have D:=(E.blk.pu o).fr G (by show¬Z.heap.size≤F;omega);have y0:=D.cell 0;have g0:=D.frozen 0;have y1:=D.cell 1;have g1:=D.frozen 1;have y2:=D.cell 2;have g2:=D.frozen 2;have y3:=D.cell 3;have g3:=D.frozen 3;have HN:=Qh ((E.pu o).next aF M G);clear M G D o;go_wp2;go_roundw
      case rel=>exact⟨i,k+1,n3,A3,c3,A4,c4,by go_num,by go_num,by omega,by omega,by omega,HN.out⟩
      case measure=>simp [intOf];omega
    ·obtain rfl:k=m:=by omega
     go_wp2_with fail
     go_quiet (fail)
     obtain⟨q1n,rfl⟩:∃q,q=nq:=⟨_,rfl⟩
     go_wp2_with fail;have o:Pu wr (wr.drewN q1n).drew:=Pu.drew (Pu.drewN (Pu.refl wr) q1n)
     go_still_tail 11,(by kernel_rfl)
     simp only [World.drew_eq]
     repeat still_step
     try refine wpStill_nil ?_
     go_wp2_with fail;refine(Hw.out _ o R ⟨fs,fA,fn,fc⟩ (aQ.pu o)).mono ?_;rintro x u5 ⟨A3,n3,c3,A4,c4,rfl,aR,M,G⟩;have D:=(E.blk.pu o).fr G (by show¬Z.heap.size≤F;omega);obtain⟨y0,y1,y2,y3⟩:=D.c4_;obtain⟨g0,g1,g2,g3⟩:=D.z4_;have HN:=Qh ((E.pu o).next aF M G);clear M G D o;go_wp2;go_roundw
     case rel=>exact⟨i+1,k,n3,A3,c3,A4,c4,by go_num,by go_num,by omega,by omega,by omega,HN.out⟩
     case measure=>simp [intOf];omega
   ·obtain rfl:i=n:=by omega
    by_cases aE:k<m
    ·obtain⟨b3,o3,tu,rfl,eX,Q⟩:=ziz HU.out.1 aE;obtain⟨uq,b4,Y,aA,rfl,eT,J,N⟩:=znk HU.out.2.1 aE;replace Q:=H.cellv Q;replace J:=H.cellv J;replace N:=H.cellv N;have O:NZ_ wr Bu uq.val:=(HU.out.2.2.1 uq (List.mem_of_getElem? aA)).pu H;have eC:((k:Int)==(m:Int))=false:=by simp;omega
     obtain⟨aS,aT,aV,aU⟩:=uq;unfold RawZ.val at O;dsimp only at J N O;clear aA;go_wp2_with fail
     go_quiet (fail)
     obtain⟨q1n,rfl⟩:∃q,q=nq:=⟨_,rfl⟩
     go_wp2_with fail
     go_quiet (fail)
     obtain⟨q2n,rfl⟩:∃q,q=nq:=⟨_,rfl⟩
     go_wp2_with fail;have o:Pu wr ((wr.drewN q1n).drewN q2n).drew:=Pu.drew (Pu.drewN (Pu.drewN (Pu.refl wr) q1n) q2n);refine zeF 13 (fun t=>t.cell? ⟨w.heap.size+1,0,none⟩=some (.slice (some ⟨b3,o3,none⟩) m cm)∧t.cell? ⟨b3,o3+k,none⟩=some (.string ⟨tu.toArray⟩)∧t.cell? ⟨w.heap.size+1,1,none⟩=some (.slice (some ⟨b4,Y,none⟩) m cg)∧t.cell? ⟨b4,Y+k*2,none⟩=some (.int .i64 aS)∧t.cell? ⟨b4,Y+k*2+1,none⟩=some (.slice aT aV aU)∧t.cell? ⟨w.heap.size+1+1,0,none⟩=some (.int .i64 qs)∧t.cell? ⟨w.heap.size+1+1,1,none⟩=some (.slice qA qn qc)∧t.cell? ⟨F,0,none⟩=some (.slice A1 I c1)∧t.cell? ⟨F,1,none⟩=some (.slice X I U)∧t.cell? ⟨F,2,none⟩=some (.int .i64 s)∧t.cell? ⟨F,3,none⟩=some (.slice A S c)) (by kernel_rfl) ⟨o.cellv e0,o.cellv Q,o.cellv e1,o.cellv J,o.cellv N,o.cellv q0,o.cellv q1,o.cellv v0,o.cellv v1,o.cellv P,o.cellv v3⟩ ?_;generalize ((wr.drewN q1n).drewN q2n).drew=V at o⊢;refine zt 0 (v:=?_) (by kernel_rfl) rfl (by kernel_rfl) (fun _ _ _ h=>h) (Or.inl ⟨by rfl,?_⟩) ?_;rotate_left
     ·(intro t C;(try dsimp only at C);go_simp;try with_reducible rfl)
     simp only [Act.put,List.setIfInBounds_toArray,List.set_cons_zero,List.set_cons_succ];refine zt 1 (v:=?_) (by kernel_rfl) rfl (by kernel_rfl) (fun _ _ _ h=>h) (Or.inl ⟨by rfl,?_⟩) ?_;rotate_left
     ·(intro t C;(try dsimp only at C);go_simp;try with_reducible rfl)
     simp only [Act.put,List.setIfInBounds_toArray,List.set_cons_zero,List.set_cons_succ];refine zt 2 (v:=?_) (by kernel_rfl) rfl (by kernel_rfl) (fun _ _ _ h=>h) (Or.inl ⟨by rfl,?_⟩) ?_;rotate_left
     ·(intro t C;(try dsimp only at C);go_simp;try with_reducible rfl)
     simp only [Act.put,List.setIfInBounds_toArray,List.set_cons_zero,List.set_cons_succ];refine zt 3 (v:=?_) (by kernel_rfl) rfl (by kernel_rfl) (fun _ _ _ h=>h) (Or.inl ⟨by rfl,?_⟩) ?_;rotate_left
     ·(intro t C;(try dsimp only at C);go_simp;try with_reducible rfl)
     simp only [Act.put,List.setIfInBounds_toArray,List.set_cons_zero,List.set_cons_succ];refine zt 4 (v:=?_) (by kernel_rfl) rfl (by kernel_rfl) (fun _ _ _ h=>h) (Or.inl ⟨by rfl,?_⟩) ?_;rotate_left
     ·(intro t C;(try dsimp only at C);go_simp;try with_reducible rfl)
     simp only [Act.put,List.setIfInBounds_toArray,List.set_cons_zero,List.set_cons_succ];refine zt 5 (v:=?_) (by kernel_rfl) rfl (by kernel_rfl) (fun _ _ _ h=>h) (Or.inl ⟨by rfl,?_⟩) ?_;rotate_left
     ·(intro t C;(try dsimp only at C);go_simp;try with_reducible rfl)
     simp only [Act.put,List.setIfInBounds_toArray,List.set_cons_zero,List.set_cons_succ];refine zt 6 (v:=?_) (by kernel_rfl) rfl (by kernel_rfl) (fun _ _ _ h=>h) (Or.inl ⟨by rfl,?_⟩) ?_;rotate_left
     ·(intro t C;(try dsimp only at C);go_simp;try with_reducible rfl)
     simp only [Act.put,List.setIfInBounds_toArray,List.set_cons_zero,List.set_cons_succ];refine zt 7 (v:=?_) (by kernel_rfl) rfl (by kernel_rfl) (fun _ _ _ h=>h) (Or.inl ⟨by rfl,?_⟩) ?_;rotate_left
     ·(intro t C;(try dsimp only at C);go_simp;try with_reducible rfl)
     simp only [Act.put,List.setIfInBounds_toArray,List.set_cons_zero,List.set_cons_succ];refine zt 8 (v:=?_) (by kernel_rfl) rfl (by kernel_rfl) (fun _ _ _ h=>h) (Or.inl ⟨by rfl,?_⟩) ?_;rotate_left
     ·(intro t C;(try dsimp only at C);go_simp;try with_reducible rfl)
     simp only [Act.put,List.setIfInBounds_toArray,List.set_cons_zero,List.set_cons_succ];refine zt 9 (v:=?_) (by kernel_rfl) rfl (by kernel_rfl) (fun _ _ _ h=>h) (Or.inl ⟨by rfl,?_⟩) ?_;rotate_left
     ·(intro t C;(try dsimp only at C);go_simp;try with_reducible rfl)
     simp only [Act.put,List.setIfInBounds_toArray,List.set_cons_zero,List.set_cons_succ];refine zt 10 (v:=?_) (by kernel_rfl) rfl (by kernel_rfl) (fun _ _ _ h=>h) (Or.inl ⟨by rfl,?_⟩) ?_;rotate_left
     ·(intro t C;(try dsimp only at C);go_simp;try with_reducible rfl)
     simp only [Act.put,List.setIfInBounds_toArray,List.set_cons_zero,List.set_cons_succ];refine zt 11 (v:=?_) (by kernel_rfl) rfl (by kernel_rfl) (fun _ _ _ h=>h) (Or.inl ⟨by rfl,?_⟩) ?_;rotate_left
     ·(intro t C;(try dsimp only at C);go_simp;try with_reducible rfl)
     simp only [Act.put,List.setIfInBounds_toArray,List.set_cons_zero,List.set_cons_succ];refine zim 12 (by kernel_rfl) rfl (by decide) (fun K T=>?_);go_simp;go_at_call 79;refine(ao.out _ _ (H.trans o) (O.pu o)).mono ?_;rintro x u2 ⟨y5,s5,A5,n5,c5,rfl,h5,a9,p9⟩;replace o:=o.trans p9;go_wp2_with fail;refine T.out _ _ ⟨o.cellv e0,o.cellv Q,o.cellv e1,o.cellv J,o.cellv N,o.cellv q0,o.cellv q1,o.cellv v0,o.cellv v1,o.cellv P,o.cellv v3⟩ ?_;clear T K
     try simp only [Act.put,List.setIfInBounds_toArray,List.set_cons_zero,List.set_cons_succ]
     refine zgU rfl (by kernel_rfl) ?_;have dx:=o.cellv v0;have dE:=o.cellv v1;have dY:=o.cellv P;have dD:=o.cellv v3;go_wp2_with fail;refine(Hw.out _ o tu ⟨s5,A5,n5,c5⟩ ⟨y5,h5,by omega⟩).mono ?_;rintro x u5 ⟨A3,n3,c3,A4,c4,rfl,aR,M,G⟩;have D:=(E.blk.pu o).fr G (by show¬Z.heap.size≤F;omega);have y0:=D.cell 0;have g0:=D.frozen 0;have y1:=D.cell 1;have g1:=D.frozen 1;have y2:=D.cell 2;have g2:=D.frozen 2;have y3:=D.cell 3;have g3:=D.frozen 3;have HN:=Qh ((E.pu o).next aF M G);clear M G D o;go_wp2;go_roundw
     case rel=>exact⟨i,k+1,n3,A3,c3,A4,c4,by go_num,by go_num,by omega,by omega,by omega,HN.out⟩
     case measure=>simp [intOf];omega
    ·obtain rfl:k=m:=by omega
     obtain⟨kR,e⟩:=zdO l6 (.slice A1 I c1) (.slice X I U) (.int .i64 s) (.slice A S c);obtain⟨w0,w1,w2,w3⟩:=l6.c4_;obtain⟨fI,fL,fM,fB⟩:=l6.z4_;have cM:=(E.to.frT e (fun g hg=>by subst hg;exact⟨_,_,_,l6,by decide⟩)).tr;have dq:=H.step e (fun j hj=>by have e':j=w.heap.size+1+1+1:=hj;omega);obtain⟨r0,r1,r2,r3⟩:=kR.c4_;have HF:=Qh (AI cM dq);clear cM dq e kR E l3 l4 l5 l6 H;go_wp2;exact bodyPost_ret (v:= .agg #[.slice A1 I c1,.slice X I U,.int .i64 s,.slice A S c]) (by simp [results,Tryz.results45,go_sem,r0,r1,r2,r3]) rfl ⟨A1,I,c1,X,U,⟨s,A,S,c⟩,rfl,fi,HF.out.1,HF.out.2⟩
 have d0:W.cell? ⟨w.heap.size,2,none⟩=some (.int .i64 rs):=k3.cell 2;have d1:W.cell? ⟨w.heap.size,3,none⟩=some (.slice rA rn rc):=k3.cell 3;have d2:W.cell? ⟨w.heap.size+1,2,none⟩=some (.int .i64 us):=k4.cell 2;have d3:W.cell? ⟨w.heap.size+1,3,none⟩=some (.slice uA un uc):=k4.cell 3;have d4:W.cell? ⟨w.heap.size+1+1,0,none⟩=some (.int .i64 qs):=k5.cell 0;have d5:W.cell? ⟨w.heap.size+1+1,1,none⟩=some (.slice qA qn qc):=k5.cell 1;have o:Pu W W.drew:=(Pu.refl W).drew;have aj:=HU.out.2.2.2;have ai:=HT.out.2.2.2;unfold RawZ.val at aj ai;dsimp only at aj ai;clear bw;go_region_held3 (fun t=>t.cell? ⟨w.heap.size,2,none⟩=some (.int .i64 rs)∧t.cell? ⟨w.heap.size,3,none⟩=some (.slice rA rn rc)∧t.cell? ⟨w.heap.size+1,2,none⟩=some (.int .i64 us)∧t.cell? ⟨w.heap.size+1,3,none⟩=some (.slice uA un uc)∧t.cell? ⟨w.heap.size+1+1,0,none⟩=some (.int .i64 qs)∧t.cell? ⟨w.heap.size+1+1,1,none⟩=some (.slice qA qn qc))
  (first|exact zcq d0 d1 d2 d3 d4 d5 (by repeat' (first|with_reducible exact o|with_reducible exact Pu.refl _|with_reducible refine Pu.drew ?_|with_reducible refine Pu.alloc ?_ _|with_reducible refine Pu.setCell ?_ ?_ _| (dsimp only;omega)))|go_keep)
  (first
   | (go_at_call 79;refine(ao.out _ _ (pW.trans (by with_reducible first|exact o|exact o.alloc _|exact Pu.drew (Pu.alloc (Pu.refl _) _))) (aj.pu (pW.trans (by with_reducible first|exact o|exact o.alloc _|exact Pu.drew (Pu.alloc (Pu.refl _) _))))).mono ?_;rintro x u2 ⟨y5,s5,A5,n5,c5,rfl,h5,a9,p9⟩;with_reducible (first| (have bA:=(Blk.new W 56 #[.slice none 0 0,.slice none 0 0,.int .i64 0,.slice none 0 0]).drew.pu p9)|skip);replace o:=Pu.trans (a:=W) (by with_reducible first|exact o|exact o.alloc _|exact Pu.drew (Pu.alloc (Pu.refl _) _)) p9;have z2:=o.size;(try(have lA:=bA.lt;have ka0:=bA.cell 0;have ka1:=bA.cell 1;have ka2:=bA.cell 2;have ka3:=bA.cell 3;have kf0:=bA.frozen 0;have kf1:=bA.frozen 1;have kf2:=bA.frozen 2;have kf3:=bA.frozen 3)))
   | (go_at_call 78;refine(bS.out _ _ _ y5 (ai.pu (pW.trans (by with_reducible first|exact o|exact o.alloc _))) (h5.pu (by with_reducible first|exact Pu.refl _|exact(Pu.refl _).alloc _)) a9).mono ?_;rintro x u3 ⟨s6,A6,n6,c6,rfl,h6,aB⟩;with_reducible (first| (replace bA:=bA.pu aB)| (have bA:=(Blk.new u2 56 #[.slice none 0 0,.slice none 0 0,.int .i64 0,.slice none 0 0]).pu aB)|skip);replace o:=Pu.trans (a:=W) (by with_reducible first|exact o|exact o.alloc _) aB;have z3:=o.size;(try clear lA);(try clear ka0 ka1 ka2 ka3 kf0 kf1 kf2 kf3);(try(have lA:=bA.lt;have ka0:=bA.cell 0;have ka1:=bA.cell 1;have ka2:=bA.cell 2;have ka3:=bA.cell 3;have kf0:=bA.frozen 0;have kf1:=bA.frozen 1;have kf2:=bA.frozen 2;have kf3:=bA.frozen 3))))
 all_goals
  have fF:=fo.out
  first
   |exact de _ _ _ _ _ _ _ _ _ _ _ _ _ _ _ _ _ _ _ _ _ _ _ _ _ _ _ _ _ _ _ _ _ _ _ _ _ _ _ _ _ _ _ _ _ _ _ _ _ _ _ _ _ _ _ _ _ _ _ _ _ _ _ _ _ _ _ _ _ _ _ _ _ _ _ _ _ _ _ _ _ _ _ _ _ _ _ _ _ _ _ _ _ _ _ _ _ _ _ _ _ _ _ _ _ _ _ _ _ _ _ _ _ _ _ _ _ _ _ _ _ _ _ u3.heap.size s6 A6 n6 c6 _ (by omega) (by simp) (zo5 h6) (o.alloc _)
   |exact de _ _ _ _ _ _ _ _ _ _ _ _ _ _ _ _ _ _ _ _ _ _ _ _ _ _ _ _ _ _ _ _ _ _ _ _ _ _ _ _ _ _ _ _ _ _ _ _ _ _ _ _ _ _ _ _ _ _ _ _ _ _ _ _ _ _ _ _ _ _ _ _ _ _ _ _ _ _ _ _ _ _ _ _ _ _ _ _ _ _ _ _ _ _ _ _ _ _ _ _ _ _ _ _ _ _ _ _ _ _ _ _ _ _ _ _ _ _ _ _ _ _ _ _ s6 A6 n6 c6 _ (by omega) (by rw [zr9];exact bA.lt) (zpN bA h6) (o.step (zdO bA _ _ _ _).2 (fun i e=>by have e':i=_:=e;omega))
end
end Go.Proofs.YtckfnbckoclhpaaGreatDoor
